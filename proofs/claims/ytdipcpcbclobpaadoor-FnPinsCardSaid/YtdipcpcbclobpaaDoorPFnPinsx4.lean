-- written by a program of this session: the kit's print, with outer functions of the session's own (wip/ext)
import Derived.Test.YtdipcpcbclobpaaDoorPFnPinsx0
import Derived.Test.YtdipcpcbclobpaaDoorPFnPinsx2
import Derived.Test.YtdipcpcbclobpaaDoorPFnPinsx3
namespace Go.Proofs.YtdipcpcbclobpaaDoor.PFnPins
open Go.RowKit Go.Proofs.YtdipcpcbclobpaaDoorW.PrintWords Go.Proofs.YtdipcpcbclobpaaDoorW.PrintLast Go.Proofs.YtdipcpcbclobpaaDoorW.PrintMore
attribute [local go_sem] max2_int min2_int max_two min_two max_three min_three max_four min_four   -- for this text's walks alone
set_option linter.unusedVariables false
set_option linter.unusedSimpArgs false
theorem mo4_ {p : Prop} (h : p := by repeat' first | (with_reducible first | apply ih0 | apply ih0 | apply ih1 | apply ih1 | apply spec_cyGood.mono | apply spec_cyGood.mono | exact LeO.refl _ | exact LeO.none _ | refine LeO.ite ?_ ?_ | refine LeO.bind ?_ (fun _ => ?_)) | exact LeO.none _ | refine LeO.ite ?_ ?_ | refine LeO.bind ?_ (fun _ => ?_)) : p := h

/-! ### spec_cySorted: function 44 -/
mutual
def spec_cySorted.l0 : Nat → List (S33) → List (S33) → Int → Int → Option ((List (S33)) × Bool)
 | 0, _, _, _, _ => none
 | k + 1, x4, x8, x9, x10 => if x10 < x9 then (if 0 ≤ x10 then (if x10 < (x8.length : Int) then (spec_cySorted.l1 k x4 (x4.length : Int) x8 x9 x10 ((rd_T33 x8 x10).f0) ((rd_T33 x8 x10).f1) ((rd_T33 x8 x10).f2)) else (none)) else (none)) else ((spec_cyGood.f k x4).bind fun uY => (if uY = true then (some (x4, true)) else (some (([] : List (S33)), false))))
def spec_cySorted.l1 : Nat → List (S33) → Int → List (S33) → Int → Int → Int → Int → Int → Option ((List (S33)) × Bool)
 | 0, _, _, _, _, _, _, _, _ => none
 | k + 1, x4, x7, x8, x9, x10, gN, gO, gP => if x7 > 0 then (if 0 ≤ (wrap64 (x7 - 1)) then (if (wrap64 (x7 - 1)) < (x4.length : Int) then ((spec_cyBefore.f gN gO gP ((rd_T33 x4 (wrap64 (x7 - 1))).f0) ((rd_T33 x4 (wrap64 (x7 - 1))).f1) ((rd_T33 x4 (wrap64 (x7 - 1))).f2)).bind fun qj => (if qj = true then (spec_cySorted.l1 k x4 (wrap64 (x7 - 1)) x8 x9 x10 gN gO gP) else ((some (([] : List (S33)) : List (S33))).bind fun fb => (if 0 ≤ x7 then (if x7 ≤ (x4.length : Int) then ((some (x4.take (x7 : Int).toNat : List (S33))).bind fun b7 => (if fb.length + b7.length < 5864062014805 then ((some (fb ++ b7 : List (S33))).bind fun dB => ((some (([(⟨gN, gO, gP⟩ : S33)] : List (S33)) : List (S33))).bind fun b4 => (if dB.length + b4.length < 5864062014805 then ((some (dB ++ b4 : List (S33))).bind fun cB => ((some (x4.drop (x7 : Int).toNat : List (S33))).bind fun bq => (if cB.length + bq.length < 5864062014805 then (spec_cySorted.l0 k (cB ++ bq) x8 x9 (wrap64 (x10 + 1))) else (none)))) else (none)))) else (none))) else (none)) else (none))))) else (none)) else (none)) else ((some (([] : List (S33)) : List (S33))).bind fun gv => (if 0 ≤ x7 then (if x7 ≤ (x4.length : Int) then ((some (x4.take (x7 : Int).toNat : List (S33))).bind fun cv => (if gv.length + cv.length < 5864062014805 then ((some (gv ++ cv : List (S33))).bind fun ep => ((some (([(⟨gN, gO, gP⟩ : S33)] : List (S33)) : List (S33))).bind fun cj => (if ep.length + cj.length < 5864062014805 then ((some (ep ++ cj : List (S33))).bind fun dl => ((some (x4.drop (x7 : Int).toNat : List (S33))).bind fun bB => (if dl.length + bB.length < 5864062014805 then (spec_cySorted.l0 k (dl ++ bB) x8 x9 (wrap64 (x10 + 1))) else (none)))) else (none)))) else (none))) else (none)) else (none)))
end
def spec_cySorted.f (k : Nat) (l0 : List (S33)) : Option ((List (S33)) × Bool) := spec_cySorted.l0 k ([] : List (S33)) l0 (l0.length : Int) 0
theorem spec_cySorted.mono_l : ∀ k, (∀ y0 y1 y2 y3, LeO (spec_cySorted.l0 k y0 y1 y2 y3) (spec_cySorted.l0 (k + 1) y0 y1 y2 y3)) ∧ (∀ y0 y1 y2 y3 y4 y5 y6 y7, LeO (spec_cySorted.l1 k y0 y1 y2 y3 y4 y5 y6 y7) (spec_cySorted.l1 (k + 1) y0 y1 y2 y3 y4 y5 y6 y7))
 | 0 => ⟨fun _ _ _ _ r h => by simp [spec_cySorted.l0] at h, fun _ _ _ _ _ _ _ _ r h => by simp [spec_cySorted.l1] at h⟩
 | k + 1 => by
  obtain ⟨ih0, ih1⟩ := spec_cySorted.mono_l k
  refine ⟨?_, ?_⟩
  ·intro y0 y1 y2 y3
   unfold spec_cySorted.l0
   exact mo4_
  intro y0 y1 y2 y3 y4 y5 y6 y7
  unfold spec_cySorted.l1
  exact mo4_
theorem spec_cySorted.mono : ∀ a0 k, LeO (spec_cySorted.f k a0) (spec_cySorted.f (k + 1) a0) := by
 intro a0 k
 obtain ⟨ih0, ih1⟩ := spec_cySorted.mono_l k
 unfold spec_cySorted.f
 exact mo4_
def spec_cySorted.T6 : Bool × List (List Nat × List Nat) := (true, [([], []), ([0], [0]), ([1], [1]), ([2], [2]), ([2], [2]), ([2], [2]), ([5, 2], [2, 5]), ([4, 6, 2], [2, 4, 6]), ([7, 2], [2, 7]), ([3, 8, 2, 2], [2, 3, 8]), ([2, 9], [2, 9])])
def spec_cySorted.B6 : List Nat := [0, 1, 3, 7, 7, 7, 39, 119, 247, 511, 1023]
theorem spec_cySorted.tab6 : rtab .any (opsOf Tryd.f44 6) = spec_cySorted.T6 := by kernel_rfl
theorem spec_cySorted.bits6 : waitsOk spec_cySorted.T6.2 spec_cySorted.B6 = true := by kernel_rfl
def spec_cySorted.T8 : Bool × List (List Nat × List Nat) := (true, [([], []), ([], []), ([], []), ([1, 2], [1, 2]), ([0, 3], [0, 3]), ([], []), ([5], [5]), ([4, 6, 4], [4, 6]), ([], []), ([], []), ([8, 9], [8, 9]), ([7, 10, 7], [7, 10]), ([11, 11, 0, 1, 2, 3, 4, 5, 6, 7, 8, 9, 10, 11], [1, 8, 11])])
def spec_cySorted.B8 : List Nat := [0, 0, 0, 6, 15, 0, 32, 127, 0, 0, 768, 2047, 4095]
theorem spec_cySorted.tab8 : rtab .any (opsOf Tryd.f44 8) = spec_cySorted.T8 := by kernel_rfl
theorem spec_cySorted.bits8 : waitsOk spec_cySorted.T8.2 spec_cySorted.B8 = true := by kernel_rfl
set_option maxHeartbeats 8000000 in
set_option maxRecDepth 100000 in
theorem spec_cySorted.calls (k : Nat) (A0 : Option Addr) (c0 : Nat) (l0 : List (S33)) (r1 : List (S33)) (r2 : Bool) (w : World) (hr0 : Kd.C k33 w A0 l0.length l0) (hc0 : l0.length ≤ c0) (h : spec_cySorted.f k l0 = some (r1, r2)) :
  Calls Tryd.prog 44 #[.slice A0 l0.length c0] w fun e w' => ∃ v0_ : Value, e = .returned (.tuple #[v0_, .bool r2]) ∧ Kd.R k33 33 w' w.heap.size (fun _ => True) v0_ r1 ∧ Below w.heap.size w w' := by
 have hu33 := Tryd.underlying33
 have HR0 := Aside0.mk hr0
 have HC0 := Aside0.mk hc0
 clear hr0 hc0
 have HB := Aside0.mk (Below.refl w.heap.size w)
 have H : (spec_cySorted.l0 k ([] : List (S33)) l0 (l0.length : Int) 0) = some (r1, r2) := h
 clear h
 have H' := Aside0.mk H
 clear H
 go_enter Tryd.func44, Tryd.ntmps44
 go_wp2
 go_loopg [4, 10] k (fun kq v4 yx w' => ∃ (au : List (S33)) (ac : Int), yx = .int .i64 ac ∧ Aside0 (spec_cySorted.l0 kq au l0 (l0.length : Int) ac = some (r1, r2)) ∧ Aside0 (kq ≤ k) ∧ Aside0 (Kd.R k33 33 w' w.heap.size (fun _ => True) v4 au) ∧ Aside0 (Below w.heap.size w w'))
 case atStart => exact ⟨(([] : List (S33))), (0), (Z14), H', ⟨Nat.le_refl _⟩, ⟨Z21⟩, ⟨Z1⟩⟩
 case round =>
  clear H'
  obtain ⟨au, ac, rfl, HA, HK1, ap, HB⟩ := hrel
  cases gk with
  | zero => exact absurd HA.out (by simp [spec_cySorted.l0])
  | succ k1 =>
   have H := HA.out
   clear HA
   simp only [spec_cySorted.l0] at H
   by_cases c2 : ac < (l0.length : Int)
   ·rw [if_pos c2] at H
    have eN : decide (ac < (l0.length : Int)) = true := decide_eq_true c2
    clear c2
    by_cases c3 : 0 ≤ ac
    ·rw [if_pos c3] at H
     have dE : decide (0 ≤ ac) = true := decide_eq_true c3
     clear c3
     by_cases c4 : ac < (l0.length : Int)
     ·rw [if_pos c4] at H
      have cy : decide (ac < (l0.length : Int)) = true := decide_eq_true c4
      clear c4
      have H' := Aside0.mk H
      clear H
      have rx : 0 ≤ (ac : Int) := of_decide_eq_true (Z12)
      have ry : ac < (l0.length : Int) := of_decide_eq_true (Z12)
      obtain ⟨ad114, e114, gQ, gR, gS⟩ := at_T33 HR0.out ac rx ry
      cases e114
      replace gQ := (HB.out.cell (World.block_lt_of_cell? w _ gQ)).trans gQ
      replace gR := (HB.out.cell (World.block_lt_of_cell? w _ gR)).trans gR
      replace gS := (HB.out.cell (World.block_lt_of_cell? w _ gS)).trans gS
      replace rx := eq_true rx
      replace ry := eq_true ry
      go_wp2_with (first | ((with_reducible refine gate_dst (N := 6) rfl ?_); refine bv_ 6 33 #[.int .i64 0, .int .i64 0, .int .i64 0] ?_; intro ak hg w5 hbox hb; refine k5_ (Kd.R_below (Kd.R_elderB (Z2 ap) ak (Nat.le_of_eq hg.symm)) hb) (below_step (Z1) hb) (hbox) ((Z23 : w.heap.size ≤ ak)) ((Z23 : w.heap.size ≤ ak)) ?_; clear ap HB; intro ap HB af GW115 GE115; clear hb hbox hg; obtain ⟨qk, ql, qm, hfz6_0, qn, qo⟩ := bx3_ (w := w5) af.out; obtain ⟨eq, bX, yy⟩ := Kd.R_slice ap.out; subst yy))
      (try simp only [Act.put, List.setIfInBounds_toArray, List.set_cons_zero, List.set_cons_succ])
      go_loopg [7] k1 (fun kq v7 w' => ∃ (aE : Int), v7 = .int .i64 aE ∧ Aside0 (spec_cySorted.l1 kq au aE l0 (l0.length : Int) ac ((rd_T33 l0 ac).f0) ((rd_T33 l0 ac).f1) ((rd_T33 l0 ac).f2) = some (r1, r2)) ∧ Aside0 (kq ≤ k1) ∧ Aside0 (Kd.R k33 33 w' w.heap.size (fun k_ => k_ ≠ ak) (.slice eq au.length bX) au) ∧ Aside0 (w'.heap[ak]? = some (.cells #[.int .i64 ((rd_T33 l0 ac).f0), .int .i64 ((rd_T33 l0 ac).f1), .int .i64 ((rd_T33 l0 ac).f2)] 33 (0, 0))) ∧ Aside0 (Below w.heap.size w w'))
      case atStart => exact ⟨((au.length : Int)), (Z14), H', ⟨Nat.le_refl _⟩, ⟨by (with_reducible repeat (first | apply Kd.R_alloc | apply Kd.R_drewN | apply Kd.R_drew)); exact Kd.R_mono (Kd.R_far (p := ⟨ak, 2, none⟩) (Kd.R_far (p := ⟨ak, 1, none⟩) (Kd.R_far (p := ⟨ak, 0, none⟩) (Kd.R_mono ap.out (fun k_ hk => (⟨hk, hk.2⟩ : _ ∧ k_ ≠ ak))) (fun _ hk => hk.2) (.int .i64 ((rd_T33 l0 ac).f0))) (fun _ hk => hk.2) (.int .i64 ((rd_T33 l0 ac).f1))) (fun _ hk => hk.2) (.int .i64 ((rd_T33 l0 ac).f2))) (fun _ hk => hk.1.2)⟩, ⟨by (with_reducible repeat (first | refine blk_drewN ?_ _ | refine blk_drew ?_ | refine blk_alloc ?_ _)); refine blk_put (cs := #[.int .i64 ((rd_T33 l0 ac).f0), .int .i64 ((rd_T33 l0 ac).f1), .int .i64 0]) ?_ 2 _ rfl; (with_reducible repeat (first | refine blk_drewN ?_ _ | refine blk_drew ?_ | refine blk_alloc ?_ _)); refine blk_put (cs := #[.int .i64 ((rd_T33 l0 ac).f0), .int .i64 0, .int .i64 0]) ?_ 1 _ rfl; (with_reducible repeat (first | refine blk_drewN ?_ _ | refine blk_drew ?_ | refine blk_alloc ?_ _)); refine blk_put (cs := #[.int .i64 0, .int .i64 0, .int .i64 0]) ?_ 0 _ rfl; (with_reducible repeat (first | refine blk_drewN ?_ _ | refine blk_drew ?_ | refine blk_alloc ?_ _)); exact af.out⟩, ⟨Z13⟩⟩
      case round =>
       clear H'
       (try clear p1); (try clear q1); (try clear hx1); (try clear c2); (try clear eN); (try clear p2); (try clear c3); (try clear dE); (try clear c4); (try clear cy); (try clear qk); (try clear ql); (try clear qm); (try clear hfz6_0); (try clear qn); (try clear qo); (try clear gQ); (try clear gR); (try clear gS); (try clear rx); (try clear ry)
       obtain ⟨aE, rfl, HA, HK2, ap, af, HB⟩ := hrel
       cases gk with
       | zero => exact absurd HA.out (by simp [spec_cySorted.l1])
       | succ k2 =>
        have H := HA.out
        clear HA
        simp only [spec_cySorted.l1] at H
        by_cases c8 : aE > 0
        ·rw [if_pos c8] at H
         have iY : decide (0 < aE) = true := decide_eq_true c8
         clear c8
         obtain ⟨di, hji9⟩ : ∃ j_ : Int, (wrap64 (aE - 1)) = j_ := ⟨_, rfl⟩
         replace H : (if 0 ≤ (di) then (if (di) < (au.length : Int) then ((spec_cyBefore.f ((rd_T33 l0 ac).f0) ((rd_T33 l0 ac).f1) ((rd_T33 l0 ac).f2) ((rd_T33 au (di)).f0) ((rd_T33 au (di)).f1) ((rd_T33 au (di)).f2)).bind fun qj => (if qj = true then (spec_cySorted.l1 k2 au di l0 (l0.length : Int) ac ((rd_T33 l0 ac).f0) ((rd_T33 l0 ac).f1) ((rd_T33 l0 ac).f2)) else ((some (([] : List (S33)) : List (S33))).bind fun fb => (if 0 ≤ aE then (if aE ≤ (au.length : Int) then ((some (au.take (aE : Int).toNat : List (S33))).bind fun b7 => (if fb.length + b7.length < 5864062014805 then ((some (fb ++ b7 : List (S33))).bind fun dB => ((some (([(⟨((rd_T33 l0 ac).f0), ((rd_T33 l0 ac).f1), ((rd_T33 l0 ac).f2)⟩ : S33)] : List (S33)) : List (S33))).bind fun b4 => (if dB.length + b4.length < 5864062014805 then ((some (dB ++ b4 : List (S33))).bind fun cB => ((some (au.drop (aE : Int).toNat : List (S33))).bind fun bq => (if cB.length + bq.length < 5864062014805 then (spec_cySorted.l0 k2 (cB ++ bq) l0 (l0.length : Int) (wrap64 (ac + 1))) else (none)))) else (none)))) else (none))) else (none)) else (none))))) else (none)) else (none)) = some (r1, r2) := by first | (rw [hji9] at H; exact H) | (simp only [hji9] at H ⊢; exact H)
         have hji9w : (IntKind.i64.wrap (aE - 1)) = di := (i64_w _).trans hji9
         by_cases c10 : 0 ≤ (di)
         ·rw [if_pos c10] at H
          have fZ : decide (0 ≤ (di)) = true := decide_eq_true c10
          clear c10
          by_cases c11 : (di) < (au.length : Int)
          ·rw [if_pos c11] at H
           have c11b0 : decide ((di) < (au.length : Int)) = true := decide_eq_true c11
           clear c11
           replace H := Option.bind_eq_some_iff.mp H
           obtain ⟨qj, jS, H⟩ := H
           (try dsimp only at H)
           have sc := Aside0.mk jS
           clear jS
           by_cases c13 : qj = true
           ·subst c13
            rw [if_pos rfl] at H
            have H' := Aside0.mk H
            clear H
            try go_wp2
            refine k3_ (Kd.R_drew ap.out) (blk_drew af.out) (below_drew1 HB.out) ?_
            clear ap af HB
            intro ap af HB
            have mA : 0 ≤ ((di) : Int) := of_decide_eq_true (Z12)
            have mB : (di) < (au.length : Int) := of_decide_eq_true (Z12)
            obtain ⟨bd, e116, fB, fC, fD⟩ := at_T33 (Kd.R_reads' ap.out).2.2 (di) mA mB
            cases e116
            replace mA := eq_true mA
            replace mB := eq_true mB
            refine start_ (n := 11) (S := fun w' => w'.cell? ⟨ak, 0, none⟩ = some (.int .i64 ((rd_T33 l0 ac).f0)) ∧ w'.cell? ⟨ak, 1, none⟩ = some (.int .i64 ((rd_T33 l0 ac).f1)) ∧ w'.cell? ⟨ak, 2, none⟩ = some (.int .i64 ((rd_T33 l0 ac).f2)) ∧ w'.cell? (bd.add (((di)).toNat * 3)) = some (.int .i64 ((rd_T33 au (di)).f0)) ∧ w'.cell? ⟨(bd.add (((di)).toNat * 3)).block, (bd.add (((di)).toNat * 3)).off + 1, none⟩ = some (.int .i64 ((rd_T33 au (di)).f1)) ∧ w'.cell? ⟨(bd.add (((di)).toNat * 3)).block, (bd.add (((di)).toNat * 3)).off + 2, none⟩ = some (.int .i64 ((rd_T33 au (di)).f2))) (ds := []) (M_ 0 11) (by kernel_rfl) rfl rfl ⟨(blk_cell af.out 0).trans rfl, (blk_cell af.out 1).trans rfl, (blk_cell af.out 2).trans rfl, fB, fC, fD⟩ (fun hHeld => ?_); refine with_tabW spec_cySorted.tab6 spec_cySorted.bits6 (fun HT_ HW_ => ?_)
            generalize wr.drew = vY at ap af HB fB fC fD hHeld ⊢
            refine pu_ 0 16 (M_ 1 10) ?_
            refine pu_ 1 17 (M_ 2 9) ?_
            refine pu_ 2 18 (M_ 3 8) ?_
            refine pu_ 4 20 (N_ 11 23) ?_
            refine pu_ 5 21 (N_ 11 55) ?_
            refine pu_ 6 22 (N_ 11 119) ?_
            refine pu_ 7 23 (N_ 11 247) ?_
            refine tk6_ 3 19 (M_ 8 3) hHeld ?_
            refine tk6_ 8 24 (M_ 9 2) hHeld ?_
            refine one_ (i := 9) (N := some 25) (M_ 10 1) rfl rfl (one_of HT_.out (by kernel_rfl)) (by decide) (fun K hK => ?_)
            refine goes_ Tryd.func55 (by kernel_rfl) rfl #[.agg #[.int .i64 ((rd_T33 l0 ac).f0), .int .i64 ((rd_T33 l0 ac).f1), .int .i64 ((rd_T33 l0 ac).f2)], .agg #[.int .i64 ((rd_T33 au (di)).f0), .int .i64 ((rd_T33 au (di)).f1), .int .i64 ((rd_T33 au (di)).f2)]] (by rfl) rfl rfl (Z104) ?_
            with_reducible refine (spec_cyBefore.calls ((rd_T33 l0 ac).f0) ((rd_T33 l0 ac).f1) ((rd_T33 l0 ac).f2) ((rd_T33 au (di)).f0) ((rd_T33 au (di)).f1) ((rd_T33 au (di)).f2) true _ sc.out).mono ?_
            rintro e l7 ⟨rfl, hb⟩
            have HS3_ := (hb.cell (World.block_lt_of_cell? _ _ (hHeld.2.2.2.1))).trans (hHeld.2.2.2.1)
            have HS4_ := (hb.cell (World.block_lt_of_cell? _ _ (hHeld.2.2.2.2.1))).trans (hHeld.2.2.2.2.1)
            have HS5_ := (hb.cell (World.block_lt_of_cell? _ _ (hHeld.2.2.2.2.2))).trans (hHeld.2.2.2.2.2)
            refine ⟨_, rfl, ?_⟩
            have n0_ := Aside0.mk (Ya_ ap)
            have n1_ := Aside0.mk (Ye_ af)
            have n2_ := Aside0.mk (below_step (Z13) hb)
            clear ap
            clear af
            clear HB
            have ap := n0_
            have af := n1_
            have HB := n2_
            clear n0_ n1_ n2_
            (try clear hb)
            (try clear hb2)
            (try clear hk)
            (try clear hi)
            refine hK.out _ _ ⟨(blk_cell af.out 0).trans rfl, (blk_cell af.out 1).trans rfl, (blk_cell af.out 2).trans rfl, HS3_, HS4_, HS5_⟩ (fun hHeld => ?_)
            clear hK K
            refine norm_ (a' := ?_) ?_ ?_
            rotate_left
            ·show Act.put _ (some 25) _ = _
             simp only [Act.put, List.setIfInBounds_toArray, List.set_cons_zero, List.set_cons_succ, i64_w, i32_w]
             rfl
            refine pu_ 10 26 (M_ 11 0) ?_
            refine done_ (done_of HT_.out (by kernel_rfl)) ?_
            try go_wp2
            go_roundg k2
            case measure => have := HK1.out; have := HK2.out; omega
            case rel => exact ⟨(di), (by first | rfl | (simp; done) | (simp only [← hji9] <;> (first | rfl | simp)) | (simp [*]; done)), H', ⟨by have := HK1.out; have := HK2.out; omega⟩, ⟨Z2 ap⟩, ⟨Z5 af⟩, ⟨Z13⟩⟩
           replace c13 := Bool.eq_false_iff.mpr c13
           subst c13
           rw [if_neg (show ¬ (false = true) by decide)] at H
           obtain ⟨fb, lf⟩ : ∃ y_ : List (S33), y_ = (([] : List (S33))) := ⟨_, rfl⟩
           replace H : (if 0 ≤ aE then (if aE ≤ (au.length : Int) then ((some (au.take (aE : Int).toNat : List (S33))).bind fun b7 => (if fb.length + b7.length < 5864062014805 then ((some (fb ++ b7 : List (S33))).bind fun dB => ((some (([(⟨((rd_T33 l0 ac).f0), ((rd_T33 l0 ac).f1), ((rd_T33 l0 ac).f2)⟩ : S33)] : List (S33)) : List (S33))).bind fun b4 => (if dB.length + b4.length < 5864062014805 then ((some (dB ++ b4 : List (S33))).bind fun cB => ((some (au.drop (aE : Int).toNat : List (S33))).bind fun bq => (if cB.length + bq.length < 5864062014805 then (spec_cySorted.l0 k2 (cB ++ bq) l0 (l0.length : Int) (wrap64 (ac + 1))) else (none)))) else (none)))) else (none))) else (none)) else (none)) = some (r1, r2) := by first | (rw [lf]; with_reducible exact H) | (have H2_ := (Option.bind_some _ _).symm.trans H; rw [lf]; with_reducible exact H2_) | (have H2_ := (Option.bind_some _ _).symm.trans H; with_reducible exact H2_) | with_reducible exact H | (rw [lf]; exact H) | exact H
           have nI := Aside0.mk lf
           clear lf
           by_cases c16 : 0 ≤ aE
           ·rw [if_pos c16] at H
            have na := eq_true c16
            have c16b1 : decide (0 ≤ aE) = true := decide_eq_true c16
            clear c16
            by_cases c17 : aE ≤ (au.length : Int)
            ·rw [if_pos c17] at H
             have ee := eq_true c17
             have iL : decide (aE ≤ (au.length : Int)) = true := decide_eq_true c17
             clear c17
             obtain ⟨b7, lg⟩ : ∃ y_ : List (S33), y_ = (au.take (aE : Int).toNat) := ⟨_, rfl⟩
             replace H : (if fb.length + b7.length < 5864062014805 then ((some (fb ++ b7 : List (S33))).bind fun dB => ((some (([(⟨((rd_T33 l0 ac).f0), ((rd_T33 l0 ac).f1), ((rd_T33 l0 ac).f2)⟩ : S33)] : List (S33)) : List (S33))).bind fun b4 => (if dB.length + b4.length < 5864062014805 then ((some (dB ++ b4 : List (S33))).bind fun cB => ((some (au.drop (aE : Int).toNat : List (S33))).bind fun bq => (if cB.length + bq.length < 5864062014805 then (spec_cySorted.l0 k2 (cB ++ bq) l0 (l0.length : Int) (wrap64 (ac + 1))) else (none)))) else (none)))) else (none)) = some (r1, r2) := by first | (rw [lg]; with_reducible exact H) | (have H2_ := (Option.bind_some _ _).symm.trans H; rw [lg]; with_reducible exact H2_) | (have H2_ := (Option.bind_some _ _).symm.trans H; with_reducible exact H2_) | with_reducible exact H | (rw [lg]; exact H) | exact H
             have f8 := Aside0.mk lg
             clear lg
             by_cases c18 : fb.length + b7.length < 5864062014805
             ·rw [if_pos c18] at H
              have jM := Aside0.mk c18
              clear c18
              obtain ⟨dB, lh⟩ : ∃ y_ : List (S33), y_ = (fb ++ b7) := ⟨_, rfl⟩
              replace H : ((some (([(⟨((rd_T33 l0 ac).f0), ((rd_T33 l0 ac).f1), ((rd_T33 l0 ac).f2)⟩ : S33)] : List (S33)) : List (S33))).bind fun b4 => (if dB.length + b4.length < 5864062014805 then ((some (dB ++ b4 : List (S33))).bind fun cB => ((some (au.drop (aE : Int).toNat : List (S33))).bind fun bq => (if cB.length + bq.length < 5864062014805 then (spec_cySorted.l0 k2 (cB ++ bq) l0 (l0.length : Int) (wrap64 (ac + 1))) else (none)))) else (none))) = some (r1, r2) := by first | (rw [lh]; with_reducible exact H) | (have H2_ := (Option.bind_some _ _).symm.trans H; rw [lh]; with_reducible exact H2_) | (have H2_ := (Option.bind_some _ _).symm.trans H; with_reducible exact H2_) | with_reducible exact H | (rw [lh]; exact H) | exact H
              have qp := Aside0.mk lh
              clear lh
              obtain ⟨b4, ll⟩ : ∃ y_ : List (S33), y_ = (([(⟨((rd_T33 l0 ac).f0), ((rd_T33 l0 ac).f1), ((rd_T33 l0 ac).f2)⟩ : S33)] : List (S33))) := ⟨_, rfl⟩
              replace H : (if dB.length + b4.length < 5864062014805 then ((some (dB ++ b4 : List (S33))).bind fun cB => ((some (au.drop (aE : Int).toNat : List (S33))).bind fun bq => (if cB.length + bq.length < 5864062014805 then (spec_cySorted.l0 k2 (cB ++ bq) l0 (l0.length : Int) (wrap64 (ac + 1))) else (none)))) else (none)) = some (r1, r2) := by first | (rw [ll]; with_reducible exact H) | (have H2_ := (Option.bind_some _ _).symm.trans H; rw [ll]; with_reducible exact H2_) | (have H2_ := (Option.bind_some _ _).symm.trans H; with_reducible exact H2_) | with_reducible exact H | (rw [ll]; exact H) | exact H
              have iQ := Aside0.mk ll
              clear ll
              by_cases c19 : dB.length + b4.length < 5864062014805
              ·rw [if_pos c19] at H
               have pz := Aside0.mk c19
               clear c19
               obtain ⟨cB, lm⟩ : ∃ y_ : List (S33), y_ = (dB ++ b4) := ⟨_, rfl⟩
               replace H : ((some (au.drop (aE : Int).toNat : List (S33))).bind fun bq => (if cB.length + bq.length < 5864062014805 then (spec_cySorted.l0 k2 (cB ++ bq) l0 (l0.length : Int) (wrap64 (ac + 1))) else (none))) = some (r1, r2) := by first | (rw [lm]; with_reducible exact H) | (have H2_ := (Option.bind_some _ _).symm.trans H; rw [lm]; with_reducible exact H2_) | (have H2_ := (Option.bind_some _ _).symm.trans H; with_reducible exact H2_) | with_reducible exact H | (rw [lm]; exact H) | exact H
               have Ny131 := Aside0.mk lm
               clear lm
               have o9 := eq_true (of_decide_eq_true (Z12) : 0 ≤ aE)
               have pa := eq_true (of_decide_eq_true (Z12) : aE ≤ (au.length : Int))
               obtain ⟨bq, ln⟩ : ∃ y_ : List (S33), y_ = (au.drop (aE : Int).toNat) := ⟨_, rfl⟩
               replace H : (if cB.length + bq.length < 5864062014805 then (spec_cySorted.l0 k2 (cB ++ bq) l0 (l0.length : Int) (wrap64 (ac + 1))) else (none)) = some (r1, r2) := by first | (rw [ln]; with_reducible exact H) | (have H2_ := (Option.bind_some _ _).symm.trans H; rw [ln]; with_reducible exact H2_) | (have H2_ := (Option.bind_some _ _).symm.trans H; with_reducible exact H2_) | with_reducible exact H | (rw [ln]; exact H) | exact H
               have f9 := Aside0.mk ln
               clear ln
               by_cases c22 : cB.length + bq.length < 5864062014805
               ·rw [if_pos c22] at H
                have LMc22 := Aside0.mk c22
                clear c22
                obtain ⟨xp, lp⟩ : ∃ y_ : List (S33), y_ = (cB ++ bq) := ⟨_, rfl⟩
                replace H : (spec_cySorted.l0 k2 xp l0 (l0.length : Int) (wrap64 (ac + 1))) = some (r1, r2) := by first | (rw [lp]; with_reducible exact H) | (have H2_ := (Option.bind_some _ _).symm.trans H; rw [lp]; with_reducible exact H2_) | (have H2_ := (Option.bind_some _ _).symm.trans H; with_reducible exact H2_) | with_reducible exact H | (rw [lp]; exact H) | exact H
                have Ny138 := Aside0.mk lp
                clear lp
                have H' := Aside0.mk H
                clear H
                try go_wp2
                refine k3_ (Kd.R_drew ap.out) (blk_drew af.out) (below_drew1 HB.out) ?_
                clear ap af HB
                intro ap af HB
                have mA : 0 ≤ ((di) : Int) := of_decide_eq_true (Z12)
                have mB : (di) < (au.length : Int) := of_decide_eq_true (Z12)
                obtain ⟨bd, e116, fB, fC, fD⟩ := at_T33 (Kd.R_reads' ap.out).2.2 (di) mA mB
                cases e116
                replace mA := eq_true mA
                replace mB := eq_true mB
                refine start_ (n := 11) (S := fun w' => w'.cell? ⟨ak, 0, none⟩ = some (.int .i64 ((rd_T33 l0 ac).f0)) ∧ w'.cell? ⟨ak, 1, none⟩ = some (.int .i64 ((rd_T33 l0 ac).f1)) ∧ w'.cell? ⟨ak, 2, none⟩ = some (.int .i64 ((rd_T33 l0 ac).f2)) ∧ w'.cell? (bd.add (((di)).toNat * 3)) = some (.int .i64 ((rd_T33 au (di)).f0)) ∧ w'.cell? ⟨(bd.add (((di)).toNat * 3)).block, (bd.add (((di)).toNat * 3)).off + 1, none⟩ = some (.int .i64 ((rd_T33 au (di)).f1)) ∧ w'.cell? ⟨(bd.add (((di)).toNat * 3)).block, (bd.add (((di)).toNat * 3)).off + 2, none⟩ = some (.int .i64 ((rd_T33 au (di)).f2))) (ds := []) (M_ 0 11) (by kernel_rfl) rfl rfl ⟨(blk_cell af.out 0).trans rfl, (blk_cell af.out 1).trans rfl, (blk_cell af.out 2).trans rfl, fB, fC, fD⟩ (fun hHeld => ?_); refine with_tabW spec_cySorted.tab6 spec_cySorted.bits6 (fun HT_ HW_ => ?_)
                generalize wr.drew = oB at ap af HB fB fC fD hHeld ⊢
                refine pu_ 0 16 (M_ 1 10) ?_
                refine pu_ 1 17 (M_ 2 9) ?_
                refine pu_ 2 18 (M_ 3 8) ?_
                refine pu_ 4 20 (N_ 11 23) ?_
                refine pu_ 5 21 (N_ 11 55) ?_
                refine pu_ 6 22 (N_ 11 119) ?_
                refine pu_ 7 23 (N_ 11 247) ?_
                refine tk6_ 3 19 (M_ 8 3) hHeld ?_
                refine tk6_ 8 24 (M_ 9 2) hHeld ?_
                refine one_ (i := 9) (N := some 25) (M_ 10 1) rfl rfl (one_of HT_.out (by kernel_rfl)) (by decide) (fun K hK => ?_)
                refine goes_ Tryd.func55 (by kernel_rfl) rfl #[.agg #[.int .i64 ((rd_T33 l0 ac).f0), .int .i64 ((rd_T33 l0 ac).f1), .int .i64 ((rd_T33 l0 ac).f2)], .agg #[.int .i64 ((rd_T33 au (di)).f0), .int .i64 ((rd_T33 au (di)).f1), .int .i64 ((rd_T33 au (di)).f2)]] (by rfl) rfl rfl (Z104) ?_
                with_reducible refine (spec_cyBefore.calls ((rd_T33 l0 ac).f0) ((rd_T33 l0 ac).f1) ((rd_T33 l0 ac).f2) ((rd_T33 au (di)).f0) ((rd_T33 au (di)).f1) ((rd_T33 au (di)).f2) false _ sc.out).mono ?_
                rintro e nZ ⟨rfl, hb⟩
                have HS3_ := (hb.cell (World.block_lt_of_cell? _ _ (hHeld.2.2.2.1))).trans (hHeld.2.2.2.1)
                have HS4_ := (hb.cell (World.block_lt_of_cell? _ _ (hHeld.2.2.2.2.1))).trans (hHeld.2.2.2.2.1)
                have HS5_ := (hb.cell (World.block_lt_of_cell? _ _ (hHeld.2.2.2.2.2))).trans (hHeld.2.2.2.2.2)
                refine ⟨_, rfl, ?_⟩
                have n0_ := Aside0.mk (Ya_ ap)
                have n1_ := Aside0.mk (Ye_ af)
                have n2_ := Aside0.mk (below_step (Z13) hb)
                clear ap
                clear af
                clear HB
                have ap := n0_
                have af := n1_
                have HB := n2_
                clear n0_ n1_ n2_
                (try clear hb)
                (try clear hb2)
                (try clear hk)
                (try clear hi)
                refine hK.out _ _ ⟨(blk_cell af.out 0).trans rfl, (blk_cell af.out 1).trans rfl, (blk_cell af.out 2).trans rfl, HS3_, HS4_, HS5_⟩ (fun hHeld => ?_)
                clear hK K
                refine norm_ (a' := ?_) ?_ ?_
                rotate_left
                ·show Act.put _ (some 25) _ = _
                 simp only [Act.put, List.setIfInBounds_toArray, List.set_cons_zero, List.set_cons_succ, i64_w, i32_w]
                 rfl
                refine pu_ 10 26 (M_ 11 0) ?_
                refine done_ (done_of HT_.out (by kernel_rfl)) ?_
                try go_wp2
                refine k3_ (Kd.R_drew ap.out) (blk_drew af.out) (below_drew1 HB.out) ?_
                clear ap af HB
                intro ap af HB
                have yz : (aE : Int) ≤ ((au.length : Int) : Int) := of_decide_eq_true (Z12)
                obtain ⟨i026, hi026, _, hsz26, _⟩ := info_parts info33
                have hroom26 : au.length ≤ bX := (Kd.R_reads' ap.out).2.1
                have hC26 : Kd.C k33 _ (some bd) au.length au := (Kd.R_reads' ap.out).2.2
                have hcut26 := cut_to (P := Tryd.prog) 24 33 .i64 Tryd.underlying24 hi026 (some bd) au.length bX aE (of_decide_eq_true (Z12)) yz hroom26
                have hr26 := Kd.C_take (m := (aE : Int).toNat) hC26 (by omega)
                have uZ : b7.length = (aE : Int).toNat := (by rw [f8.out, List.length_take]; omega)
                rw [← f8.out] at hr26
                rw [← uZ] at hcut26
                have HR124 := Aside0.mk hr26
                have HC124 := Aside0.mk (show b7.length ≤ bX from by omega)
                clear hr26 hC26 hroom26 hi026 hsz26
                have KY26 := Aside0.mk uZ
                clear uZ
                have KL26 := Aside0.mk (show (aE : Int).toNat ≤ au.length from by omega)
                replace yz := eq_true yz
                have yh : (aE : Int) ≤ ((au.length : Int) : Int) := of_decide_eq_true (Z12)
                obtain ⟨i027, hi027, _, hsz27, _⟩ := info_parts info33
                have hroom27 : au.length ≤ bX := (Kd.R_reads' ap.out).2.1
                have hC27 : Kd.C k33 _ (some bd) au.length au := (Kd.R_reads' ap.out).2.2
                have q027 : (0 : Int) ≤ (aE : Int) := of_decide_eq_true (Z12)
                have hcut27 := cut_from (P := Tryd.prog) 24 33 .i64 Tryd.underlying24 hi027 3 hsz27 (some bd) au.length bX aE q027 yh
                have hr27 := Kd.C_drop (m := (aE : Int).toNat) (c := bX) hC27 (by omega) hroom27
                obtain ⟨u0, hA27⟩ : ∃ A1, A1 = (if bX = (aE : Int).toNat then (some bd) else ((some bd) : Option Addr).map (·.add ((aE : Int).toNat * 3))) := ⟨_, rfl⟩
                obtain ⟨c27, hc27⟩ : ∃ c1, c1 = bX - (aE : Int).toNat := ⟨_, rfl⟩
                have rz : bq.length = au.length - (aE : Int).toNat := (by rw [f9.out, List.length_drop] <;> omega)
                rw [show (au).drop (aE : Int).toNat = bq from f9.out.symm] at hr27
                replace hr27 : Kd.C k33 _ u0 bq.length bq := (by rw [hA27]; exact hr27)
                rw [← rz, ← hA27, ← hc27] at hcut27
                have HR137 := Aside0.mk hr27
                have HC137 := Aside0.mk (show bq.length ≤ c27 from by rw [rz, hc27]; exact Nat.sub_le_sub_right hroom27 _)
                clear hr27 hC27 hroom27 hi027 hsz27 hc27
                have KY27 := Aside0.mk rz
                have oe := Aside0.mk hA27
                clear rz hA27
                have KL27 := Aside0.mk (show (aE : Int).toNat ≤ au.length from by omega)
                replace yh := eq_true yh
                refine start_ (n := 13) (S := fun w' => w'.cell? ⟨ak, 0, none⟩ = some (.int .i64 ((rd_T33 l0 ac).f0)) ∧ w'.cell? ⟨ak, 1, none⟩ = some (.int .i64 ((rd_T33 l0 ac).f1)) ∧ w'.cell? ⟨ak, 2, none⟩ = some (.int .i64 ((rd_T33 l0 ac).f2))) (ds := []) (M_ 0 13) (by kernel_rfl) rfl rfl ⟨(blk_cell af.out 0).trans rfl, (blk_cell af.out 1).trans rfl, (blk_cell af.out 2).trans rfl⟩ (fun hHeld => ?_); refine with_tabW spec_cySorted.tab8 spec_cySorted.bits8 (fun HT_ HW_ => ?_)
                generalize nZ.drew = n5 at ap af HB HR124 HR137 hHeld ⊢
                refine pu_ 1 30 (N_ 13 2) ?_
                refine pu_ 2 31 (N_ 13 6) ?_
                refine pu_ 3 32 (N_ 13 14) ?_
                refine pu_ 8 37 (N_ 13 270) ?_
                refine pu_ 9 38 (N_ 13 782) ?_
                refine pu_ 10 39 (N_ 13 1806) ?_
                refine tk3_ 5 34 (N_ 13 1838) hHeld ?_
                refine join_ (σ := Value × Value × Value) 3 (N_ 13 1919) (fun s_ => [(29, s_.1), (33, s_.2.1), (35, s_.2.2)]) (fun s_ w' => (w'.cell? ⟨ak, 0, none⟩ = some (.int .i64 ((rd_T33 l0 ac).f0)) ∧ w'.cell? ⟨ak, 1, none⟩ = some (.int .i64 ((rd_T33 l0 ac).f1)) ∧ w'.cell? ⟨ak, 2, none⟩ = some (.int .i64 ((rd_T33 l0 ac).f2))) ∧ (Kd.R k33 33 w' w.heap.size (fun k_ => some k_ ≠ (s_.2.2 : Value).ownBlock ∧ some k_ ≠ (.slice (some bd) au.length bX : Value).ownBlock ∧ k_ ≠ ak) s_.2.1 dB) ∧ (Kd.R k33 33 w' w.heap.size (fun k_ => some k_ ≠ (s_.2.1 : Value).ownBlock ∧ some k_ ≠ (.slice (some bd) au.length bX : Value).ownBlock ∧ k_ ≠ ak) s_.2.2 b4) ∧ (Kd.R k33 33 w' w.heap.size (fun k_ => some k_ ≠ (s_.2.1 : Value).ownBlock ∧ some k_ ≠ (s_.2.2 : Value).ownBlock ∧ k_ ≠ ak) (.slice (some bd) au.length bX) au) ∧ (w'.heap[ak]? = some (.cells #[.int .i64 ((rd_T33 l0 ac).f0), .int .i64 ((rd_T33 l0 ac).f1), .int .i64 ((rd_T33 l0 ac).f2)] 33 (0, 0))) ∧ (Below w.heap.size w w')) ?_ ?_
                rotate_left
                ·intro hCont
                 refine two_ (i := 0) (j := 6) (Ni := some 29) (Nj := some 35) (N_ 13 1839) (N_ 13 1902) rfl rfl rfl rfl (two_of HT_.out (by kernel_rfl)) (by decide) (by decide) (fun K hK => ?_) (fun K hK => ?_)
                 ·skip
                  refine Kd.R_lit_step k33 _ 33 ?hg (N := 29) ?hd (xs := ([] : List (S33))) (inner := []) (ok := fun _ => True) (okp := fun _ => True) ?hr ?hp (fun _ hk => hk) trivial (Below.refl _ _) (Nat.le_refl _) (by simp) ?_; (case hd => rfl); (case hg => rfl); (case hr => exact Z34); (case hp => exact (Reps.none _ _))
                  intro lq q0 ho29 hb hg_ hnew_
                  clear hg_ hnew_
                  (first | rw [← nI.out] at ho29 | (simp only [Int.reduceToNat] at ho29; rw [← nI.out] at ho29))
                  have n0_ := Aside0.mk (Kd.R_elder' (Z2 ap) (Kd.R_base ho29) hb)
                  have n1_ := Aside0.mk (Kd.R_lower (Kd.R_newB (Kd.R_new' ho29 (Yd_ ap)) (g := ak) (o := .cells #[.int .i64 ((rd_T33 l0 ac).f0), .int .i64 ((rd_T33 l0 ac).f1), .int .i64 ((rd_T33 l0 ac).f2)] 33 (0, 0)) (Z5 af)) (below_size (Z13)))
                  have n2_ := Aside0.mk (Ye_ af)
                  have n3_ := Aside0.mk (Kd.C_below (Z19 HR124) hb)
                  have n4_ := Aside0.mk (Kd.C_below (Z19 HR137) hb)
                  have n5_ := Aside0.mk (below_step (Z13) hb)
                  clear ap
                  clear af
                  clear HR124
                  clear HR137
                  clear HB
                  have ap := n0_
                  have dr := n1_
                  have af := n2_
                  have HR124 := n3_
                  have HR137 := n4_
                  have HB := n5_
                  clear n0_ n1_ n2_ n3_ n4_ n5_
                  clear hb ho29
                  refine hK.out _ _ ⟨(blk_cell af.out 0).trans rfl, (blk_cell af.out 1).trans rfl, (blk_cell af.out 2).trans rfl⟩ (fun hHeld => ?_)
                  clear hK K
                  refine norm_ (a' := ?_) ?_ ?_
                  rotate_left
                  ·show Act.put _ (some 29) _ = _
                   simp only [Act.put, List.setIfInBounds_toArray, List.set_cons_zero, List.set_cons_succ, i64_w, i32_w]
                   rfl
                  refine two_ (i := 4) (j := 6) (Ni := some 33) (Nj := some 35) (N_ 13 1855) (N_ 13 1903) rfl rfl rfl rfl (two_of HT_.out (by kernel_rfl)) (by decide) (by decide) (fun K hK => ?_) (fun K hK => ?_)
                  ·skip
                   refine Kd.R_append_rows_step k33 (w0 := w) w.heap.size (by rfl) (.tmp 29) (.tmp 32) 24 33 (.agg #[(.int .i64 0), (.int .i64 0), (.int .i64 0)]) 24 rfl Tryd.underlying24 info33 rfl (by decide) (by omega) lq fb b7 _ _ _ (fun k_ => some k_ ≠ (.slice (some bd) au.length bX : Value).ownBlock ∧ k_ ≠ ak) (fun _ => False) rfl rfl ?aO ?aR (fun _ _ h => h) (fun _ h => h.elim) ?aF ?aB ?aS ?aL ?_
                   (case aR => exact Z91)
                   (case aB => exact Z13)
                   (case aF => exact (fun k_ hk => ⟨Kd.fresh' (Yd_ ap) k_ hk, Kd.freshB (g := ak) (o := .cells #[.int .i64 ((rd_T33 l0 ac).f0), .int .i64 ((rd_T33 l0 ac).f1), .int .i64 ((rd_T33 l0 ac).f2)] 33 (0, 0)) (Z5 af) k_ hk⟩))
                   (case aO => exact (Z70 dr))
                   (case aS => exact (below_size (Z13)))
                   (case aL => exact Z82 jM)
                   intro iG jB ho hb hg hat
                   rw [← qp.out] at ho
                   have n0_ := Aside0.mk (Kd.R_after (ok := (fun k_ => k_ ≠ ak)) (Z2 ap) hg hat)
                   have n1_ := Aside0.mk (blk_grown (g := ak) (o := .cells #[.int .i64 ((rd_T33 l0 ac).f0), .int .i64 ((rd_T33 l0 ac).f1), .int .i64 ((rd_T33 l0 ac).f2)] 33 (0, 0)) (Z5 af) hg (Kd.R_away dr.out (fun _ hk => hk.2)))
                   have n2_ := Aside0.mk (hb)
                   have n3_ := Aside0.mk ((show Kd.C k33 jB (some bd) b7.length b7 from by rw [f8.out]; exact Kd.C_take (m := (aE : Int).toNat) ((Kd.R_reads' (Kd.R_after (ok := (fun k_ => k_ ≠ ak)) (Z2 ap) hg hat)).2.2) KL26.out))
                   have n4_ := Aside0.mk ((show Kd.C k33 jB u0 bq.length bq from by rw [f9.out, oe.out]; exact Kd.C_drop (m := (aE : Int).toNat) (c := bX) ((Kd.R_reads' (Kd.R_after (ok := (fun k_ => k_ ≠ ak)) (Z2 ap) hg hat)).2.2) KL27.out ((Kd.R_reads' (Kd.R_after (ok := (fun k_ => k_ ≠ ak)) (Z2 ap) hg hat)).2.1)))
                   have n5_ := Aside0.mk (ho)
                   clear ap
                   clear af
                   clear HB
                   clear HR124
                   clear HR137
                   clear dr
                   have ap := n0_
                   have af := n1_
                   have HB := n2_
                   have HR124 := n3_
                   have HR137 := n4_
                   have dR := n5_
                   clear n0_ n1_ n2_ n3_ n4_ n5_
                   clear ho hb hg hat
                   refine hK.out _ _ ⟨(blk_cell af.out 0).trans rfl, (blk_cell af.out 1).trans rfl, (blk_cell af.out 2).trans rfl⟩ (fun hHeld => ?_)
                   clear hK K
                   refine norm_ (a' := ?_) ?_ ?_
                   rotate_left
                   ·show Act.put _ (some 33) _ = _
                    simp only [Act.put, List.setIfInBounds_toArray, List.set_cons_zero, List.set_cons_succ, i64_w, i32_w]
                    rfl
                   refine one_ (i := 6) (N := some 35) (N_ 13 1919) rfl rfl (one_of HT_.out (by kernel_rfl)) (by decide) (fun K hK => ?_)
                   refine Kd.R_lit_step k33 _ 33 ?hg (N := 35) ?hd (xs := ([(⟨((rd_T33 l0 ac).f0), ((rd_T33 l0 ac).f1), ((rd_T33 l0 ac).f2)⟩ : S33)] : List (S33))) (inner := [.int .i64 ((rd_T33 l0 ac).f0), .int .i64 ((rd_T33 l0 ac).f1), .int .i64 ((rd_T33 l0 ac).f2)]) (ok := fun _ => True) (okp := fun _ => True) ?hr ?hp (fun _ hk => hk) trivial (Below.refl _ _) (Nat.le_refl _) (by simp) ?_; (case hd => rfl); (case hg => rfl); (case hr => exact Z34); (case hp => exact (Reps.c3 (show Kd.M k33 _ _ _ (⟨((rd_T33 l0 ac).f0), ((rd_T33 l0 ac).f1), ((rd_T33 l0 ac).f2)⟩ : S33) [.int .i64 ((rd_T33 l0 ac).f0), .int .i64 ((rd_T33 l0 ac).f1), .int .i64 ((rd_T33 l0 ac).f2)] from (k33_mkM _ _ _ (⟨((rd_T33 l0 ac).f0), ((rd_T33 l0 ac).f1), ((rd_T33 l0 ac).f2)⟩ : S33) )) (Reps.none _ _)))
                   intro d6 oE ho32 hb hg_ hnew_
                   clear hg_ hnew_
                   (first | rw [← iQ.out] at ho32 | (simp only [Int.reduceToNat] at ho32; rw [← iQ.out] at ho32))
                   have n0_ := Aside0.mk (Kd.R_elder' (Z2 ap) (Kd.R_base ho32) hb)
                   have n1_ := Aside0.mk (Kd.R_elder' (Z2 dR) (Kd.R_base ho32) hb)
                   have n2_ := Aside0.mk (Kd.R_lower (Kd.R_newB (Kd.R_new' (Kd.R_new' ho32 (Yd_ ap)) (Yd_ dR)) (g := ak) (o := .cells #[.int .i64 ((rd_T33 l0 ac).f0), .int .i64 ((rd_T33 l0 ac).f1), .int .i64 ((rd_T33 l0 ac).f2)] 33 (0, 0)) (Z5 af)) (below_size (Z13)))
                   have n3_ := Aside0.mk (Ye_ af)
                   have n4_ := Aside0.mk (Kd.C_below (Z19 HR124) hb)
                   have n5_ := Aside0.mk (Kd.C_below (Z19 HR137) hb)
                   have n6_ := Aside0.mk (below_step (Z13) hb)
                   clear ap
                   clear dR
                   clear af
                   clear HR124
                   clear HR137
                   clear HB
                   have ap := n0_
                   have dR := n1_
                   have bt := n2_
                   have af := n3_
                   have HR124 := n4_
                   have HR137 := n5_
                   have HB := n6_
                   clear n0_ n1_ n2_ n3_ n4_ n5_ n6_
                   clear hb ho32
                   refine hK.out _ _ ⟨(blk_cell af.out 0).trans rfl, (blk_cell af.out 1).trans rfl, (blk_cell af.out 2).trans rfl⟩ (fun hHeld => ?_)
                   clear hK K
                   refine norm_ (a' := ?_) ?_ ?_
                   rotate_left
                   ·show Act.put _ (some 35) _ = _
                    simp only [Act.put, List.setIfInBounds_toArray, List.set_cons_zero, List.set_cons_succ, i64_w, i32_w]
                    rfl
                   exact norm_ (Z33) (hCont (lq, iG, d6) _ ⟨hHeld, (Z20 dR), (Z59 bt), (Z66 ap), (Z5 af), (Z13)⟩)
                  skip
                  refine Kd.R_lit_step k33 _ 33 ?hg (N := 35) ?hd (xs := ([(⟨((rd_T33 l0 ac).f0), ((rd_T33 l0 ac).f1), ((rd_T33 l0 ac).f2)⟩ : S33)] : List (S33))) (inner := [.int .i64 ((rd_T33 l0 ac).f0), .int .i64 ((rd_T33 l0 ac).f1), .int .i64 ((rd_T33 l0 ac).f2)]) (ok := fun _ => True) (okp := fun _ => True) ?hr ?hp (fun _ hk => hk) trivial (Below.refl _ _) (Nat.le_refl _) (by simp) ?_; (case hd => rfl); (case hg => rfl); (case hr => exact Z34); (case hp => exact (Reps.c3 (show Kd.M k33 _ _ _ (⟨((rd_T33 l0 ac).f0), ((rd_T33 l0 ac).f1), ((rd_T33 l0 ac).f2)⟩ : S33) [.int .i64 ((rd_T33 l0 ac).f0), .int .i64 ((rd_T33 l0 ac).f1), .int .i64 ((rd_T33 l0 ac).f2)] from (k33_mkM _ _ _ (⟨((rd_T33 l0 ac).f0), ((rd_T33 l0 ac).f1), ((rd_T33 l0 ac).f2)⟩ : S33) )) (Reps.none _ _)))
                  intro d6 jB ho31 hb hg_ hnew_
                  clear hg_ hnew_
                  (first | rw [← iQ.out] at ho31 | (simp only [Int.reduceToNat] at ho31; rw [← iQ.out] at ho31))
                  have n0_ := Aside0.mk (Kd.R_elder' (Z2 ap) (Kd.R_base ho31) hb)
                  have n1_ := Aside0.mk (Kd.R_elder' (Z2 dr) (Kd.R_base ho31) hb)
                  have n2_ := Aside0.mk (Kd.R_lower (Kd.R_newB (Kd.R_new' (Kd.R_new' ho31 (Yd_ ap)) (Yd_ dr)) (g := ak) (o := .cells #[.int .i64 ((rd_T33 l0 ac).f0), .int .i64 ((rd_T33 l0 ac).f1), .int .i64 ((rd_T33 l0 ac).f2)] 33 (0, 0)) (Z5 af)) (below_size (Z13)))
                  have n3_ := Aside0.mk (Ye_ af)
                  have n4_ := Aside0.mk (Kd.C_below (Z19 HR124) hb)
                  have n5_ := Aside0.mk (Kd.C_below (Z19 HR137) hb)
                  have n6_ := Aside0.mk (below_step (Z13) hb)
                  clear ap
                  clear dr
                  clear af
                  clear HR124
                  clear HR137
                  clear HB
                  have ap := n0_
                  have dr := n1_
                  have bt := n2_
                  have af := n3_
                  have HR124 := n4_
                  have HR137 := n5_
                  have HB := n6_
                  clear n0_ n1_ n2_ n3_ n4_ n5_ n6_
                  clear hb ho31
                  refine hK.out _ _ ⟨(blk_cell af.out 0).trans rfl, (blk_cell af.out 1).trans rfl, (blk_cell af.out 2).trans rfl⟩ (fun hHeld => ?_)
                  clear hK K
                  refine norm_ (a' := ?_) ?_ ?_
                  rotate_left
                  ·show Act.put _ (some 35) _ = _
                   simp only [Act.put, List.setIfInBounds_toArray, List.set_cons_zero, List.set_cons_succ, i64_w, i32_w]
                   rfl
                  refine one_ (i := 4) (N := some 33) (N_ 13 1919) rfl rfl (one_of HT_.out (by kernel_rfl)) (by decide) (fun K hK => ?_)
                  refine Kd.R_append_rows_step k33 (w0 := w) w.heap.size (by rfl) (.tmp 29) (.tmp 32) 24 33 (.agg #[(.int .i64 0), (.int .i64 0), (.int .i64 0)]) 24 rfl Tryd.underlying24 info33 rfl (by decide) (by omega) lq fb b7 _ _ _ (fun k_ => some k_ ≠ (.slice (some bd) au.length bX : Value).ownBlock ∧ some k_ ≠ (d6 : Value).ownBlock ∧ k_ ≠ ak) (fun _ => False) rfl rfl ?aO ?aR (fun _ _ h => h) (fun _ h => h.elim) ?aF ?aB ?aS ?aL ?_
                  (case aR => exact Z91)
                  (case aB => exact Z13)
                  (case aF => exact (fun k_ hk => ⟨Kd.fresh' (Yd_ ap) k_ hk, Kd.fresh' (Yd_ bt) k_ hk, Kd.freshB (g := ak) (o := .cells #[.int .i64 ((rd_T33 l0 ac).f0), .int .i64 ((rd_T33 l0 ac).f1), .int .i64 ((rd_T33 l0 ac).f2)] 33 (0, 0)) (Z5 af) k_ hk⟩))
                  (case aO => exact (Z60 dr))
                  (case aS => exact (below_size (Z13)))
                  (case aL => exact Z82 jM)
                  intro iG pH ho hb hg hat
                  rw [← qp.out] at ho
                  have n0_ := Aside0.mk (Kd.R_after (ok := (fun k_ => some k_ ≠ (d6 : Value).ownBlock ∧ k_ ≠ ak)) (Z36 ap) hg hat)
                  have n1_ := Aside0.mk (blk_grown (g := ak) (o := .cells #[.int .i64 ((rd_T33 l0 ac).f0), .int .i64 ((rd_T33 l0 ac).f1), .int .i64 ((rd_T33 l0 ac).f2)] 33 (0, 0)) (Z5 af) hg (Kd.R_away dr.out (fun _ hk => hk.1.2)))
                  have n2_ := Aside0.mk (Kd.R_after (ok := (fun k_ => some k_ ≠ (.slice (some bd) au.length bX : Value).ownBlock ∧ k_ ≠ ak)) (Z61 bt) hg hat)
                  have n3_ := Aside0.mk (hb)
                  have n4_ := Aside0.mk ((show Kd.C k33 pH (some bd) b7.length b7 from by rw [f8.out]; exact Kd.C_take (m := (aE : Int).toNat) ((Kd.R_reads' (Kd.R_after (ok := (fun k_ => some k_ ≠ (d6 : Value).ownBlock ∧ k_ ≠ ak)) (Z36 ap) hg hat)).2.2) KL26.out))
                  have n5_ := Aside0.mk ((show Kd.C k33 pH u0 bq.length bq from by rw [f9.out, oe.out]; exact Kd.C_drop (m := (aE : Int).toNat) (c := bX) ((Kd.R_reads' (Kd.R_after (ok := (fun k_ => some k_ ≠ (d6 : Value).ownBlock ∧ k_ ≠ ak)) (Z36 ap) hg hat)).2.2) KL27.out ((Kd.R_reads' (Kd.R_after (ok := (fun k_ => some k_ ≠ (d6 : Value).ownBlock ∧ k_ ≠ ak)) (Z36 ap) hg hat)).2.1)))
                  have n6_ := Aside0.mk (ho)
                  clear ap
                  clear af
                  clear bt
                  clear HB
                  clear HR124
                  clear HR137
                  clear dr
                  have ap := n0_
                  have af := n1_
                  have bt := n2_
                  have HB := n3_
                  have HR124 := n4_
                  have HR137 := n5_
                  have dR := n6_
                  clear n0_ n1_ n2_ n3_ n4_ n5_ n6_
                  clear ho hb hg hat
                  refine hK.out _ _ ⟨(blk_cell af.out 0).trans rfl, (blk_cell af.out 1).trans rfl, (blk_cell af.out 2).trans rfl⟩ (fun hHeld => ?_)
                  clear hK K
                  refine norm_ (a' := ?_) ?_ ?_
                  rotate_left
                  ·show Act.put _ (some 33) _ = _
                   simp only [Act.put, List.setIfInBounds_toArray, List.set_cons_zero, List.set_cons_succ, i64_w, i32_w]
                   rfl
                  exact norm_ (Z33) (hCont (lq, iG, d6) _ ⟨hHeld, (Z28 dR), (Z20 bt), (Z20 ap), (Z5 af), (Z13)⟩)
                 skip
                 refine Kd.R_lit_step k33 _ 33 ?hg (N := 35) ?hd (xs := ([(⟨((rd_T33 l0 ac).f0), ((rd_T33 l0 ac).f1), ((rd_T33 l0 ac).f2)⟩ : S33)] : List (S33))) (inner := [.int .i64 ((rd_T33 l0 ac).f0), .int .i64 ((rd_T33 l0 ac).f1), .int .i64 ((rd_T33 l0 ac).f2)]) (ok := fun _ => True) (okp := fun _ => True) ?hr ?hp (fun _ hk => hk) trivial (Below.refl _ _) (Nat.le_refl _) (by simp) ?_; (case hd => rfl); (case hg => rfl); (case hr => exact Z34); (case hp => exact (Reps.c3 (show Kd.M k33 _ _ _ (⟨((rd_T33 l0 ac).f0), ((rd_T33 l0 ac).f1), ((rd_T33 l0 ac).f2)⟩ : S33) [.int .i64 ((rd_T33 l0 ac).f0), .int .i64 ((rd_T33 l0 ac).f1), .int .i64 ((rd_T33 l0 ac).f2)] from (k33_mkM _ _ _ (⟨((rd_T33 l0 ac).f0), ((rd_T33 l0 ac).f1), ((rd_T33 l0 ac).f2)⟩ : S33) )) (Reps.none _ _)))
                 intro d6 q0 ho29 hb hg_ hnew_
                 clear hg_ hnew_
                 (first | rw [← iQ.out] at ho29 | (simp only [Int.reduceToNat] at ho29; rw [← iQ.out] at ho29))
                 have n0_ := Aside0.mk (Kd.R_elder' (Z2 ap) (Kd.R_base ho29) hb)
                 have n1_ := Aside0.mk (Kd.R_lower (Kd.R_newB (Kd.R_new' ho29 (Yd_ ap)) (g := ak) (o := .cells #[.int .i64 ((rd_T33 l0 ac).f0), .int .i64 ((rd_T33 l0 ac).f1), .int .i64 ((rd_T33 l0 ac).f2)] 33 (0, 0)) (Z5 af)) (below_size (Z13)))
                 have n2_ := Aside0.mk (Ye_ af)
                 have n3_ := Aside0.mk (Kd.C_below (Z19 HR124) hb)
                 have n4_ := Aside0.mk (Kd.C_below (Z19 HR137) hb)
                 have n5_ := Aside0.mk (below_step (Z13) hb)
                 clear ap
                 clear af
                 clear HR124
                 clear HR137
                 clear HB
                 have ap := n0_
                 have bt := n1_
                 have af := n2_
                 have HR124 := n3_
                 have HR137 := n4_
                 have HB := n5_
                 clear n0_ n1_ n2_ n3_ n4_ n5_
                 clear hb ho29
                 refine hK.out _ _ ⟨(blk_cell af.out 0).trans rfl, (blk_cell af.out 1).trans rfl, (blk_cell af.out 2).trans rfl⟩ (fun hHeld => ?_)
                 clear hK K
                 refine norm_ (a' := ?_) ?_ ?_
                 rotate_left
                 ·show Act.put _ (some 35) _ = _
                  simp only [Act.put, List.setIfInBounds_toArray, List.set_cons_zero, List.set_cons_succ, i64_w, i32_w]
                  rfl
                 refine one_ (i := 0) (N := some 29) (N_ 13 1903) rfl rfl (one_of HT_.out (by kernel_rfl)) (by decide) (fun K hK => ?_)
                 refine Kd.R_lit_step k33 _ 33 ?hg (N := 29) ?hd (xs := ([] : List (S33))) (inner := []) (ok := fun _ => True) (okp := fun _ => True) ?hr ?hp (fun _ hk => hk) trivial (Below.refl _ _) (Nat.le_refl _) (by simp) ?_; (case hd => rfl); (case hg => rfl); (case hr => exact Z34); (case hp => exact (Reps.none _ _))
                 intro lq jB ho31 hb hg_ hnew_
                 clear hg_ hnew_
                 (first | rw [← nI.out] at ho31 | (simp only [Int.reduceToNat] at ho31; rw [← nI.out] at ho31))
                 have n0_ := Aside0.mk (Kd.R_elder' (Z2 ap) (Kd.R_base ho31) hb)
                 have n1_ := Aside0.mk (Kd.R_elder' (Z2 bt) (Kd.R_base ho31) hb)
                 have n2_ := Aside0.mk (Kd.R_lower (Kd.R_newB (Kd.R_new' (Kd.R_new' ho31 (Yd_ ap)) (Yd_ bt)) (g := ak) (o := .cells #[.int .i64 ((rd_T33 l0 ac).f0), .int .i64 ((rd_T33 l0 ac).f1), .int .i64 ((rd_T33 l0 ac).f2)] 33 (0, 0)) (Z5 af)) (below_size (Z13)))
                 have n3_ := Aside0.mk (Ye_ af)
                 have n4_ := Aside0.mk (Kd.C_below (Z19 HR124) hb)
                 have n5_ := Aside0.mk (Kd.C_below (Z19 HR137) hb)
                 have n6_ := Aside0.mk (below_step (Z13) hb)
                 clear ap
                 clear bt
                 clear af
                 clear HR124
                 clear HR137
                 clear HB
                 have ap := n0_
                 have bt := n1_
                 have dr := n2_
                 have af := n3_
                 have HR124 := n4_
                 have HR137 := n5_
                 have HB := n6_
                 clear n0_ n1_ n2_ n3_ n4_ n5_ n6_
                 clear hb ho31
                 refine hK.out _ _ ⟨(blk_cell af.out 0).trans rfl, (blk_cell af.out 1).trans rfl, (blk_cell af.out 2).trans rfl⟩ (fun hHeld => ?_)
                 clear hK K
                 refine norm_ (a' := ?_) ?_ ?_
                 rotate_left
                 ·show Act.put _ (some 29) _ = _
                  simp only [Act.put, List.setIfInBounds_toArray, List.set_cons_zero, List.set_cons_succ, i64_w, i32_w]
                  rfl
                 refine one_ (i := 4) (N := some 33) (N_ 13 1919) rfl rfl (one_of HT_.out (by kernel_rfl)) (by decide) (fun K hK => ?_)
                 refine Kd.R_append_rows_step k33 (w0 := w) w.heap.size (by rfl) (.tmp 29) (.tmp 32) 24 33 (.agg #[(.int .i64 0), (.int .i64 0), (.int .i64 0)]) 24 rfl Tryd.underlying24 info33 rfl (by decide) (by omega) lq fb b7 _ _ _ (fun k_ => some k_ ≠ (.slice (some bd) au.length bX : Value).ownBlock ∧ some k_ ≠ (d6 : Value).ownBlock ∧ k_ ≠ ak) (fun _ => False) rfl rfl ?aO ?aR (fun _ _ h => h) (fun _ h => h.elim) ?aF ?aB ?aS ?aL ?_
                 (case aR => exact Z91)
                 (case aB => exact Z13)
                 (case aF => exact (fun k_ hk => ⟨Kd.fresh' (Yd_ ap) k_ hk, Kd.fresh' (Yd_ bt) k_ hk, Kd.freshB (g := ak) (o := .cells #[.int .i64 ((rd_T33 l0 ac).f0), .int .i64 ((rd_T33 l0 ac).f1), .int .i64 ((rd_T33 l0 ac).f2)] 33 (0, 0)) (Z5 af) k_ hk⟩))
                 (case aO => exact (Z62 dr))
                 (case aS => exact (below_size (Z13)))
                 (case aL => exact Z82 jM)
                 intro iG pH ho hb hg hat
                 rw [← qp.out] at ho
                 have n0_ := Aside0.mk (Kd.R_after (ok := (fun k_ => some k_ ≠ (d6 : Value).ownBlock ∧ k_ ≠ ak)) (Z37 ap) hg hat)
                 have n1_ := Aside0.mk (blk_grown (g := ak) (o := .cells #[.int .i64 ((rd_T33 l0 ac).f0), .int .i64 ((rd_T33 l0 ac).f1), .int .i64 ((rd_T33 l0 ac).f2)] 33 (0, 0)) (Z5 af) hg (Kd.R_away dr.out (fun _ hk => hk.2)))
                 have n2_ := Aside0.mk (Kd.R_after (ok := (fun k_ => some k_ ≠ (.slice (some bd) au.length bX : Value).ownBlock ∧ k_ ≠ ak)) (Z63 bt) hg hat)
                 have n3_ := Aside0.mk (hb)
                 have n4_ := Aside0.mk ((show Kd.C k33 pH (some bd) b7.length b7 from by rw [f8.out]; exact Kd.C_take (m := (aE : Int).toNat) ((Kd.R_reads' (Kd.R_after (ok := (fun k_ => some k_ ≠ (d6 : Value).ownBlock ∧ k_ ≠ ak)) (Z37 ap) hg hat)).2.2) KL26.out))
                 have n5_ := Aside0.mk ((show Kd.C k33 pH u0 bq.length bq from by rw [f9.out, oe.out]; exact Kd.C_drop (m := (aE : Int).toNat) (c := bX) ((Kd.R_reads' (Kd.R_after (ok := (fun k_ => some k_ ≠ (d6 : Value).ownBlock ∧ k_ ≠ ak)) (Z37 ap) hg hat)).2.2) KL27.out ((Kd.R_reads' (Kd.R_after (ok := (fun k_ => some k_ ≠ (d6 : Value).ownBlock ∧ k_ ≠ ak)) (Z37 ap) hg hat)).2.1)))
                 have n6_ := Aside0.mk (ho)
                 clear ap
                 clear af
                 clear bt
                 clear HB
                 clear HR124
                 clear HR137
                 clear dr
                 have ap := n0_
                 have af := n1_
                 have bt := n2_
                 have HB := n3_
                 have HR124 := n4_
                 have HR137 := n5_
                 have dR := n6_
                 clear n0_ n1_ n2_ n3_ n4_ n5_ n6_
                 clear ho hb hg hat
                 refine hK.out _ _ ⟨(blk_cell af.out 0).trans rfl, (blk_cell af.out 1).trans rfl, (blk_cell af.out 2).trans rfl⟩ (fun hHeld => ?_)
                 clear hK K
                 refine norm_ (a' := ?_) ?_ ?_
                 rotate_left
                 ·show Act.put _ (some 33) _ = _
                  simp only [Act.put, List.setIfInBounds_toArray, List.set_cons_zero, List.set_cons_succ, i64_w, i32_w]
                  rfl
                 exact norm_ (Z33) (hCont (lq, iG, d6) _ ⟨hHeld, (Z28 dR), (Z20 bt), (Z20 ap), (Z5 af), (Z13)⟩)
                rintro ⟨lq, iG, d6⟩ oC ⟨hS_, h0_, h1_, h2_, h3_, h4_⟩
                have n0_ : Aside0 (Kd.R k33 33 oC w.heap.size (fun k_ => some k_ ≠ (d6 : Value).ownBlock ∧ some k_ ≠ (.slice (some bd) au.length bX : Value).ownBlock ∧ k_ ≠ ak) iG dB) := ⟨h0_⟩
                have n1_ : Aside0 (Kd.R k33 33 oC w.heap.size (fun k_ => some k_ ≠ (iG : Value).ownBlock ∧ some k_ ≠ (.slice (some bd) au.length bX : Value).ownBlock ∧ k_ ≠ ak) d6 b4) := ⟨h1_⟩
                have n2_ : Aside0 (Kd.R k33 33 oC w.heap.size (fun k_ => some k_ ≠ (iG : Value).ownBlock ∧ some k_ ≠ (d6 : Value).ownBlock ∧ k_ ≠ ak) (.slice (some bd) au.length bX) au) := ⟨h2_⟩
                have n3_ : Aside0 (oC.heap[ak]? = some (.cells #[.int .i64 ((rd_T33 l0 ac).f0), .int .i64 ((rd_T33 l0 ac).f1), .int .i64 ((rd_T33 l0 ac).f2)] 33 (0, 0))) := ⟨h3_⟩
                have n4_ : Aside0 (Below w.heap.size w oC) := ⟨h4_⟩
                clear ap
                clear af
                clear HB
                clear h0_ h1_ h2_ h3_ h4_
                have dR := n0_
                have bt := n1_
                have ap := n2_
                have af := n3_
                have HB := n4_
                clear n0_ n1_ n2_ n3_ n4_
                have hHeld : oC.cell? ⟨ak, 0, none⟩ = some (.int .i64 ((rd_T33 l0 ac).f0)) ∧ oC.cell? ⟨ak, 1, none⟩ = some (.int .i64 ((rd_T33 l0 ac).f1)) ∧ oC.cell? ⟨ak, 2, none⟩ = some (.int .i64 ((rd_T33 l0 ac).f2)) := hS_
                have n_ := Aside0.mk (show Kd.C k33 _ (some bd) b7.length b7 from by rw [f8.out]; exact Kd.C_take (m := (aE : Int).toNat) ((Kd.R_reads' ap.out).2.2) KL26.out)
                (try clear HR124)
                have HR124 := n_
                clear n_
                have n_ := Aside0.mk (show Kd.C k33 _ u0 bq.length bq from by rw [f9.out, oe.out]; exact Kd.C_drop (m := (aE : Int).toNat) (c := bX) ((Kd.R_reads' ap.out).2.2) KL27.out ((Kd.R_reads' ap.out).2.1))
                (try clear HR137)
                have HR137 := n_
                clear n_
                obtain ⟨iH, iI, xq⟩ := Kd.R_slice bt.out
                (first | subst xq | (injection xq with f1_ f2_ f3_; have f4_ := f1_.symm; have f5_ := f3_.symm; clear f1_ f2_ f3_; subst f4_; subst f5_))
                refine norm_ (a' := ?_) ?_ ?_
                rotate_left
                ·simp only [putAll, Act.put, List.setIfInBounds_toArray, List.set_cons_zero, List.set_cons_succ]
                 rfl
                refine one_ (i := 7) (N := some 36) (M_ 11 2) rfl rfl (one_of HT_.out (by kernel_rfl)) (by decide) (fun K hK => ?_)
                refine Kd.R_append_rows_step k33 (w0 := w) w.heap.size (by rfl) (.tmp 33) (.tmp 35) 24 33 (.agg #[(.int .i64 0), (.int .i64 0), (.int .i64 0)]) 24 rfl Tryd.underlying24 info33 rfl (by decide) (by omega) iG dB b4 _ _ _ (fun k_ => some k_ ≠ (.slice (some bd) au.length bX : Value).ownBlock ∧ some k_ ≠ (.slice iH b4.length iI : Value).ownBlock ∧ k_ ≠ ak) (fun _ => False) rfl rfl ?aO ?aR (fun _ _ h => h) (fun _ h => h.elim) ?aF ?aB ?aS ?aL ?_
                (case aR => exact Z4 bt)
                (case aB => exact Z13)
                (case aF => exact (fun k_ hk => ⟨Kd.fresh' (Yd_ ap) k_ hk, Kd.fresh' (Yd_ bt) k_ hk, Kd.freshB (g := ak) (o := .cells #[.int .i64 ((rd_T33 l0 ac).f0), .int .i64 ((rd_T33 l0 ac).f1), .int .i64 ((rd_T33 l0 ac).f2)] 33 (0, 0)) (Z5 af) k_ hk⟩))
                (case aO => exact (Z28 dR))
                (case aS => exact (below_size (Z13)))
                (case aL => exact Z82 pz)
                intro v132 yg ho hb hg hat
                rw [← Ny131.out] at ho
                have n0_ := Aside0.mk (Kd.R_after (ok := (fun k_ => some k_ ≠ (.slice iH b4.length iI : Value).ownBlock ∧ k_ ≠ ak)) (Z29 ap) hg hat)
                have n1_ := Aside0.mk (blk_grown (g := ak) (o := .cells #[.int .i64 ((rd_T33 l0 ac).f0), .int .i64 ((rd_T33 l0 ac).f1), .int .i64 ((rd_T33 l0 ac).f2)] 33 (0, 0)) (Z5 af) hg (Kd.R_away dR.out (fun _ hk => hk.2.2)))
                have n2_ := Aside0.mk (Kd.R_after (ok := (fun k_ => some k_ ≠ (.slice (some bd) au.length bX : Value).ownBlock ∧ k_ ≠ ak)) (Z29 bt) hg hat)
                have n3_ := Aside0.mk (hb)
                have n4_ := Aside0.mk ((show Kd.C k33 yg (some bd) b7.length b7 from by rw [f8.out]; exact Kd.C_take (m := (aE : Int).toNat) ((Kd.R_reads' (Kd.R_after (ok := (fun k_ => some k_ ≠ (.slice iH b4.length iI : Value).ownBlock ∧ k_ ≠ ak)) (Z29 ap) hg hat)).2.2) KL26.out))
                have n5_ := Aside0.mk ((show Kd.C k33 yg u0 bq.length bq from by rw [f9.out, oe.out]; exact Kd.C_drop (m := (aE : Int).toNat) (c := bX) ((Kd.R_reads' (Kd.R_after (ok := (fun k_ => some k_ ≠ (.slice iH b4.length iI : Value).ownBlock ∧ k_ ≠ ak)) (Z29 ap) hg hat)).2.2) KL27.out ((Kd.R_reads' (Kd.R_after (ok := (fun k_ => some k_ ≠ (.slice iH b4.length iI : Value).ownBlock ∧ k_ ≠ ak)) (Z29 ap) hg hat)).2.1)))
                have n6_ := Aside0.mk (ho)
                clear ap
                clear af
                clear bt
                clear HB
                clear HR124
                clear HR137
                clear dR
                have ap := n0_
                have af := n1_
                have bt := n2_
                have HB := n3_
                have HR124 := n4_
                have HR137 := n5_
                have qq := n6_
                clear n0_ n1_ n2_ n3_ n4_ n5_ n6_
                clear ho hb hg hat
                refine hK.out _ _ ⟨(blk_cell af.out 0).trans rfl, (blk_cell af.out 1).trans rfl, (blk_cell af.out 2).trans rfl⟩ (fun hHeld => ?_)
                clear hK K
                refine norm_ (a' := ?_) ?_ ?_
                rotate_left
                ·show Act.put _ (some 36) _ = _
                 simp only [Act.put, List.setIfInBounds_toArray, List.set_cons_zero, List.set_cons_succ, i64_w, i32_w]
                 rfl
                refine one_ (i := 11) (N := some 40) (M_ 12 1) rfl rfl (one_of HT_.out (by kernel_rfl)) (by decide) (fun K hK => ?_)
                refine Kd.R_append_rows_step k33 (w0 := w) w.heap.size (by rfl) (.tmp 36) (.tmp 39) 24 33 (.agg #[(.int .i64 0), (.int .i64 0), (.int .i64 0)]) 24 rfl Tryd.underlying24 info33 rfl (by decide) (by omega) v132 cB bq _ _ _ (fun k_ => some k_ ≠ (.slice (some bd) au.length bX : Value).ownBlock ∧ some k_ ≠ (.slice iH b4.length iI : Value).ownBlock ∧ k_ ≠ ak) (fun _ => False) rfl rfl ?aO ?aR (fun _ _ h => h) (fun _ h => h.elim) ?aF ?aB ?aS ?aL ?_
                (case aR => repeat (first | exact (Z19 HR137) | (with_reducible refine Kd.C_alloc ?_ _) | (with_reducible refine Kd.C_drewN ?_ _) | (with_reducible refine Kd.C_drew ?_)))
                (case aB => exact Z13)
                (case aF => exact (fun k_ hk => ⟨Kd.fresh' (Yd_ ap) k_ hk, Kd.fresh' (Yd_ bt) k_ hk, Kd.freshB (g := ak) (o := .cells #[.int .i64 ((rd_T33 l0 ac).f0), .int .i64 ((rd_T33 l0 ac).f1), .int .i64 ((rd_T33 l0 ac).f2)] 33 (0, 0)) (Z5 af) k_ hk⟩))
                (case aO => exact (Z2 qq))
                (case aS => exact (below_size (Z13)))
                (case aL => exact Z82 LMc22)
                intro v139 yA ho hb hg hat
                rw [← Ny138.out] at ho
                have n0_ := Aside0.mk (Kd.R_after (ok := (fun k_ => some k_ ≠ (.slice iH b4.length iI : Value).ownBlock ∧ k_ ≠ ak)) (Z2 ap) hg hat)
                have n1_ := Aside0.mk (blk_grown (g := ak) (o := .cells #[.int .i64 ((rd_T33 l0 ac).f0), .int .i64 ((rd_T33 l0 ac).f1), .int .i64 ((rd_T33 l0 ac).f2)] 33 (0, 0)) (Z5 af) hg (Kd.R_away qq.out (fun _ hk => hk.2.2)))
                have n2_ := Aside0.mk (Kd.R_after (ok := (fun k_ => some k_ ≠ (.slice (some bd) au.length bX : Value).ownBlock ∧ k_ ≠ ak)) (Z2 bt) hg hat)
                have n3_ := Aside0.mk (hb)
                have n4_ := Aside0.mk ((show Kd.C k33 yA (some bd) b7.length b7 from by rw [f8.out]; exact Kd.C_take (m := (aE : Int).toNat) ((Kd.R_reads' (Kd.R_after (ok := (fun k_ => some k_ ≠ (.slice iH b4.length iI : Value).ownBlock ∧ k_ ≠ ak)) (Z2 ap) hg hat)).2.2) KL26.out))
                have n5_ := Aside0.mk ((show Kd.C k33 yA u0 bq.length bq from by rw [f9.out, oe.out]; exact Kd.C_drop (m := (aE : Int).toNat) (c := bX) ((Kd.R_reads' (Kd.R_after (ok := (fun k_ => some k_ ≠ (.slice iH b4.length iI : Value).ownBlock ∧ k_ ≠ ak)) (Z2 ap) hg hat)).2.2) KL27.out ((Kd.R_reads' (Kd.R_after (ok := (fun k_ => some k_ ≠ (.slice iH b4.length iI : Value).ownBlock ∧ k_ ≠ ak)) (Z2 ap) hg hat)).2.1)))
                have n6_ := Aside0.mk (ho)
                clear ap
                clear af
                clear bt
                clear HB
                clear HR124
                clear HR137
                clear qq
                have ap := n0_
                have af := n1_
                have bt := n2_
                have HB := n3_
                have HR124 := n4_
                have HR137 := n5_
                have HO140 := n6_
                clear n0_ n1_ n2_ n3_ n4_ n5_ n6_
                clear ho hb hg hat
                refine hK.out _ _ ⟨(blk_cell af.out 0).trans rfl, (blk_cell af.out 1).trans rfl, (blk_cell af.out 2).trans rfl⟩ (fun hHeld => ?_)
                clear hK K
                refine norm_ (a' := ?_) ?_ ?_
                rotate_left
                ·show Act.put _ (some 40) _ = _
                 simp only [Act.put, List.setIfInBounds_toArray, List.set_cons_zero, List.set_cons_succ, i64_w, i32_w]
                 rfl
                refine pu_ 12 4 (M_ 13 0) ?_
                refine done_ (done_of HT_.out (by kernel_rfl)) ?_
                try go_wp2
                go_roundg k2
                case measure => have := HK1.out; have := HK2.out; omega
                case rel => exact ⟨(xp), (wrap64 (ac + 1)), (Z14), H', ⟨by have := HK1.out; have := HK2.out; omega⟩, ⟨Z26 HO140⟩, ⟨Z13⟩⟩
               rw [if_neg c22] at H
               exact absurd H (by simp)
              rw [if_neg c19] at H
              exact absurd H (by simp)
             rw [if_neg c18] at H
             exact absurd H (by simp)
            rw [if_neg c17] at H
            exact absurd H (by simp)
           rw [if_neg c16] at H
           exact absurd H (by simp)
          rw [if_neg c11] at H
          exact absurd H (by simp)
         rw [if_neg c10] at H
         exact absurd H (by simp)
        rw [if_neg c8] at H
        have iY : decide (0 < aE) = false := decide_eq_false c8
        clear c8
        obtain ⟨gv, lr⟩ : ∃ y_ : List (S33), y_ = (([] : List (S33))) := ⟨_, rfl⟩
        replace H : (if 0 ≤ aE then (if aE ≤ (au.length : Int) then ((some (au.take (aE : Int).toNat : List (S33))).bind fun cv => (if gv.length + cv.length < 5864062014805 then ((some (gv ++ cv : List (S33))).bind fun ep => ((some (([(⟨((rd_T33 l0 ac).f0), ((rd_T33 l0 ac).f1), ((rd_T33 l0 ac).f2)⟩ : S33)] : List (S33)) : List (S33))).bind fun cj => (if ep.length + cj.length < 5864062014805 then ((some (ep ++ cj : List (S33))).bind fun dl => ((some (au.drop (aE : Int).toNat : List (S33))).bind fun bB => (if dl.length + bB.length < 5864062014805 then (spec_cySorted.l0 k2 (dl ++ bB) l0 (l0.length : Int) (wrap64 (ac + 1))) else (none)))) else (none)))) else (none))) else (none)) else (none)) = some (r1, r2) := by first | (rw [lr]; with_reducible exact H) | (have H2_ := (Option.bind_some _ _).symm.trans H; rw [lr]; with_reducible exact H2_) | (have H2_ := (Option.bind_some _ _).symm.trans H; with_reducible exact H2_) | with_reducible exact H | (rw [lr]; exact H) | exact H
        have nJ := Aside0.mk lr
        clear lr
        by_cases c37 : 0 ≤ aE
        ·rw [if_pos c37] at H
         have c37b0 := eq_true c37
         have c37b1 : decide (0 ≤ aE) = true := decide_eq_true c37
         clear c37
         by_cases c38 : aE ≤ (au.length : Int)
         ·rw [if_pos c38] at H
          have c38b0 := eq_true c38
          have c38b1 : decide (aE ≤ (au.length : Int)) = true := decide_eq_true c38
          clear c38
          obtain ⟨cv, ls⟩ : ∃ y_ : List (S33), y_ = (au.take (aE : Int).toNat) := ⟨_, rfl⟩
          replace H : (if gv.length + cv.length < 5864062014805 then ((some (gv ++ cv : List (S33))).bind fun ep => ((some (([(⟨((rd_T33 l0 ac).f0), ((rd_T33 l0 ac).f1), ((rd_T33 l0 ac).f2)⟩ : S33)] : List (S33)) : List (S33))).bind fun cj => (if ep.length + cj.length < 5864062014805 then ((some (ep ++ cj : List (S33))).bind fun dl => ((some (au.drop (aE : Int).toNat : List (S33))).bind fun bB => (if dl.length + bB.length < 5864062014805 then (spec_cySorted.l0 k2 (dl ++ bB) l0 (l0.length : Int) (wrap64 (ac + 1))) else (none)))) else (none)))) else (none)) = some (r1, r2) := by first | (rw [ls]; with_reducible exact H) | (have H2_ := (Option.bind_some _ _).symm.trans H; rw [ls]; with_reducible exact H2_) | (have H2_ := (Option.bind_some _ _).symm.trans H; with_reducible exact H2_) | with_reducible exact H | (rw [ls]; exact H) | exact H
          have ga := Aside0.mk ls
          clear ls
          by_cases c39 : gv.length + cv.length < 5864062014805
          ·rw [if_pos c39] at H
           have qr := Aside0.mk c39
           clear c39
           obtain ⟨ep, lu⟩ : ∃ y_ : List (S33), y_ = (gv ++ cv) := ⟨_, rfl⟩
           replace H : ((some (([(⟨((rd_T33 l0 ac).f0), ((rd_T33 l0 ac).f1), ((rd_T33 l0 ac).f2)⟩ : S33)] : List (S33)) : List (S33))).bind fun cj => (if ep.length + cj.length < 5864062014805 then ((some (ep ++ cj : List (S33))).bind fun dl => ((some (au.drop (aE : Int).toNat : List (S33))).bind fun bB => (if dl.length + bB.length < 5864062014805 then (spec_cySorted.l0 k2 (dl ++ bB) l0 (l0.length : Int) (wrap64 (ac + 1))) else (none)))) else (none))) = some (r1, r2) := by first | (rw [lu]; with_reducible exact H) | (have H2_ := (Option.bind_some _ _).symm.trans H; rw [lu]; with_reducible exact H2_) | (have H2_ := (Option.bind_some _ _).symm.trans H; with_reducible exact H2_) | with_reducible exact H | (rw [lu]; exact H) | exact H
           have qt := Aside0.mk lu
           clear lu
           obtain ⟨cj, lv⟩ : ∃ y_ : List (S33), y_ = (([(⟨((rd_T33 l0 ac).f0), ((rd_T33 l0 ac).f1), ((rd_T33 l0 ac).f2)⟩ : S33)] : List (S33))) := ⟨_, rfl⟩
           replace H : (if ep.length + cj.length < 5864062014805 then ((some (ep ++ cj : List (S33))).bind fun dl => ((some (au.drop (aE : Int).toNat : List (S33))).bind fun bB => (if dl.length + bB.length < 5864062014805 then (spec_cySorted.l0 k2 (dl ++ bB) l0 (l0.length : Int) (wrap64 (ac + 1))) else (none)))) else (none)) = some (r1, r2) := by first | (rw [lv]; with_reducible exact H) | (have H2_ := (Option.bind_some _ _).symm.trans H; rw [lv]; with_reducible exact H2_) | (have H2_ := (Option.bind_some _ _).symm.trans H; with_reducible exact H2_) | with_reducible exact H | (rw [lv]; exact H) | exact H
           have iR := Aside0.mk lv
           clear lv
           by_cases c40 : ep.length + cj.length < 5864062014805
           ·rw [if_pos c40] at H
            have LMc40 := Aside0.mk c40
            clear c40
            obtain ⟨dl, lw⟩ : ∃ y_ : List (S33), y_ = (ep ++ cj) := ⟨_, rfl⟩
            replace H : ((some (au.drop (aE : Int).toNat : List (S33))).bind fun bB => (if dl.length + bB.length < 5864062014805 then (spec_cySorted.l0 k2 (dl ++ bB) l0 (l0.length : Int) (wrap64 (ac + 1))) else (none))) = some (r1, r2) := by first | (rw [lw]; with_reducible exact H) | (have H2_ := (Option.bind_some _ _).symm.trans H; rw [lw]; with_reducible exact H2_) | (have H2_ := (Option.bind_some _ _).symm.trans H; with_reducible exact H2_) | with_reducible exact H | (rw [lw]; exact H) | exact H
            have Ny154 := Aside0.mk lw
            clear lw
            have c41b0 := eq_true (of_decide_eq_true (Z12) : 0 ≤ aE)
            have c42b0 := eq_true (of_decide_eq_true (Z12) : aE ≤ (au.length : Int))
            obtain ⟨bB, lx⟩ : ∃ y_ : List (S33), y_ = (au.drop (aE : Int).toNat) := ⟨_, rfl⟩
            replace H : (if dl.length + bB.length < 5864062014805 then (spec_cySorted.l0 k2 (dl ++ bB) l0 (l0.length : Int) (wrap64 (ac + 1))) else (none)) = some (r1, r2) := by first | (rw [lx]; with_reducible exact H) | (have H2_ := (Option.bind_some _ _).symm.trans H; rw [lx]; with_reducible exact H2_) | (have H2_ := (Option.bind_some _ _).symm.trans H; with_reducible exact H2_) | with_reducible exact H | (rw [lx]; exact H) | exact H
            have gc := Aside0.mk lx
            clear lx
            by_cases c43 : dl.length + bB.length < 5864062014805
            ·rw [if_pos c43] at H
             have LMc43 := Aside0.mk c43
             clear c43
             obtain ⟨xr, ly⟩ : ∃ y_ : List (S33), y_ = (dl ++ bB) := ⟨_, rfl⟩
             replace H : (spec_cySorted.l0 k2 xr l0 (l0.length : Int) (wrap64 (ac + 1))) = some (r1, r2) := by first | (rw [ly]; with_reducible exact H) | (have H2_ := (Option.bind_some _ _).symm.trans H; rw [ly]; with_reducible exact H2_) | (have H2_ := (Option.bind_some _ _).symm.trans H; with_reducible exact H2_) | with_reducible exact H | (rw [ly]; exact H) | exact H
             have Ny161 := Aside0.mk ly
             clear ly
             have H' := Aside0.mk H
             clear H
             try go_wp2
             refine k3_ (Kd.R_drew ap.out) (blk_drew af.out) (below_drew1 HB.out) ?_
             clear ap af HB
             intro ap af HB
             refine start_ (n := 11) (S := fun w' => True) (ds := []) (M_ 0 11) (by kernel_rfl) rfl rfl trivial (fun hHeld => ?_); refine with_tabW spec_cySorted.tab6 spec_cySorted.bits6 (fun HT_ HW_ => ?_)
             generalize wr.drew = w44 at ap af HB hHeld ⊢
             refine pu_ 0 16 (M_ 1 10) ?_
             refine pu_ 1 17 (M_ 2 9) ?_
             refine pu_ 2 18 (M_ 3 8) ?_
             refine pn_ 3 19 (M_ 4 7) ?_
             refine pn_ 4 20 (M_ 5 6) ?_
             refine pn_ 5 21 (M_ 6 5) ?_
             refine pn_ 6 22 (M_ 7 4) ?_
             refine pn_ 7 23 (M_ 8 3) ?_
             refine pn_ 8 24 (M_ 9 2) ?_
             refine pn_ 9 25 (M_ 10 1) ?_
             refine pu_ 10 26 (M_ 11 0) ?_
             refine done_ (done_of HT_.out (by kernel_rfl)) ?_
             try go_wp2
             refine k3_ (Kd.R_drew ap.out) (blk_drew af.out) (below_drew1 HB.out) ?_
             clear ap af HB
             intro ap af HB
             have yB : (aE : Int) ≤ ((au.length : Int) : Int) := of_decide_eq_true (Z12)
             obtain ⟨i046, hi046, _, hsz46, _⟩ := info_parts info33
             have hroom46 : au.length ≤ bX := (Kd.R_reads' ap.out).2.1
             have hC46 : Kd.C k33 _ eq au.length au := (Kd.R_reads' ap.out).2.2
             have hcut46 := cut_to (P := Tryd.prog) 24 33 .i64 Tryd.underlying24 hi046 eq au.length bX aE (of_decide_eq_true (Z12)) yB hroom46
             have hr46 := Kd.C_take (m := (aE : Int).toNat) hC46 (by omega)
             have u1 : cv.length = (aE : Int).toNat := (by rw [ga.out, List.length_take]; omega)
             rw [← ga.out] at hr46
             rw [← u1] at hcut46
             have HR147 := Aside0.mk hr46
             have HC147 := Aside0.mk (show cv.length ≤ bX from by omega)
             clear hr46 hC46 hroom46 hi046 hsz46
             have KY46 := Aside0.mk u1
             clear u1
             have KL46 := Aside0.mk (show (aE : Int).toNat ≤ au.length from by omega)
             replace yB := eq_true yB
             have yC : (aE : Int) ≤ ((au.length : Int) : Int) := of_decide_eq_true (Z12)
             obtain ⟨i047, hi047, _, hsz47, _⟩ := info_parts info33
             have hroom47 : au.length ≤ bX := (Kd.R_reads' ap.out).2.1
             have hC47 : Kd.C k33 _ eq au.length au := (Kd.R_reads' ap.out).2.2
             have q047 : (0 : Int) ≤ (aE : Int) := of_decide_eq_true (Z12)
             have hcut47 := cut_from (P := Tryd.prog) 24 33 .i64 Tryd.underlying24 hi047 3 hsz47 eq au.length bX aE q047 yC
             have hr47 := Kd.C_drop (m := (aE : Int).toNat) (c := bX) hC47 (by omega) hroom47
             obtain ⟨qT, hA47⟩ : ∃ A1, A1 = (if bX = (aE : Int).toNat then eq else (eq : Option Addr).map (·.add ((aE : Int).toNat * 3))) := ⟨_, rfl⟩
             obtain ⟨c47, hc47⟩ : ∃ c1, c1 = bX - (aE : Int).toNat := ⟨_, rfl⟩
             have rA : bB.length = au.length - (aE : Int).toNat := (by rw [gc.out, List.length_drop] <;> omega)
             rw [show (au).drop (aE : Int).toNat = bB from gc.out.symm] at hr47
             replace hr47 : Kd.C k33 _ qT bB.length bB := (by rw [hA47]; exact hr47)
             rw [← rA, ← hA47, ← hc47] at hcut47
             have HR160 := Aside0.mk hr47
             have HC160 := Aside0.mk (show bB.length ≤ c47 from by rw [rA, hc47]; exact Nat.sub_le_sub_right hroom47 _)
             clear hr47 hC47 hroom47 hi047 hsz47 hc47
             have KY47 := Aside0.mk rA
             have og := Aside0.mk hA47
             clear rA hA47
             have KL47 := Aside0.mk (show (aE : Int).toNat ≤ au.length from by omega)
             replace yC := eq_true yC
             refine start_ (n := 13) (S := fun w' => w'.cell? ⟨ak, 0, none⟩ = some (.int .i64 ((rd_T33 l0 ac).f0)) ∧ w'.cell? ⟨ak, 1, none⟩ = some (.int .i64 ((rd_T33 l0 ac).f1)) ∧ w'.cell? ⟨ak, 2, none⟩ = some (.int .i64 ((rd_T33 l0 ac).f2))) (ds := []) (M_ 0 13) (by kernel_rfl) rfl rfl ⟨(blk_cell af.out 0).trans rfl, (blk_cell af.out 1).trans rfl, (blk_cell af.out 2).trans rfl⟩ (fun hHeld => ?_); refine with_tabW spec_cySorted.tab8 spec_cySorted.bits8 (fun HT_ HW_ => ?_)
             generalize w44.drew = yD at ap af HB HR147 HR160 hHeld ⊢
             refine pu_ 1 30 (N_ 13 2) ?_
             refine pu_ 2 31 (N_ 13 6) ?_
             refine pu_ 3 32 (N_ 13 14) ?_
             refine pu_ 8 37 (N_ 13 270) ?_
             refine pu_ 9 38 (N_ 13 782) ?_
             refine pu_ 10 39 (N_ 13 1806) ?_
             refine tk3_ 5 34 (N_ 13 1838) hHeld ?_
             refine join_ (σ := Value × Value × Value) 3 (N_ 13 1919) (fun s_ => [(29, s_.1), (33, s_.2.1), (35, s_.2.2)]) (fun s_ w' => (w'.cell? ⟨ak, 0, none⟩ = some (.int .i64 ((rd_T33 l0 ac).f0)) ∧ w'.cell? ⟨ak, 1, none⟩ = some (.int .i64 ((rd_T33 l0 ac).f1)) ∧ w'.cell? ⟨ak, 2, none⟩ = some (.int .i64 ((rd_T33 l0 ac).f2))) ∧ (Kd.R k33 33 w' w.heap.size (fun k_ => some k_ ≠ (s_.2.2 : Value).ownBlock ∧ some k_ ≠ (.slice eq au.length bX : Value).ownBlock ∧ k_ ≠ ak) s_.2.1 ep) ∧ (Kd.R k33 33 w' w.heap.size (fun k_ => some k_ ≠ (s_.2.1 : Value).ownBlock ∧ some k_ ≠ (.slice eq au.length bX : Value).ownBlock ∧ k_ ≠ ak) s_.2.2 cj) ∧ (Kd.R k33 33 w' w.heap.size (fun k_ => some k_ ≠ (s_.2.1 : Value).ownBlock ∧ some k_ ≠ (s_.2.2 : Value).ownBlock ∧ k_ ≠ ak) (.slice eq au.length bX) au) ∧ (w'.heap[ak]? = some (.cells #[.int .i64 ((rd_T33 l0 ac).f0), .int .i64 ((rd_T33 l0 ac).f1), .int .i64 ((rd_T33 l0 ac).f2)] 33 (0, 0))) ∧ (Below w.heap.size w w')) ?_ ?_
             rotate_left
             ·intro hCont
              refine two_ (i := 0) (j := 6) (Ni := some 29) (Nj := some 35) (N_ 13 1839) (N_ 13 1902) rfl rfl rfl rfl (two_of HT_.out (by kernel_rfl)) (by decide) (by decide) (fun K hK => ?_) (fun K hK => ?_)
              ·skip
               refine Kd.R_lit_step k33 _ 33 ?hg (N := 29) ?hd (xs := ([] : List (S33))) (inner := []) (ok := fun _ => True) (okp := fun _ => True) ?hr ?hp (fun _ hk => hk) trivial (Below.refl _ _) (Nat.le_refl _) (by simp) ?_; (case hd => rfl); (case hg => rfl); (case hr => exact Z34); (case hp => exact (Reps.none _ _))
               intro lz oF ho49 hb hg_ hnew_
               clear hg_ hnew_
               (first | rw [← nJ.out] at ho49 | (simp only [Int.reduceToNat] at ho49; rw [← nJ.out] at ho49))
               have n0_ := Aside0.mk (Kd.R_elder' (Z2 ap) (Kd.R_base ho49) hb)
               have n1_ := Aside0.mk (Kd.R_lower (Kd.R_newB (Kd.R_new' ho49 (Yd_ ap)) (g := ak) (o := .cells #[.int .i64 ((rd_T33 l0 ac).f0), .int .i64 ((rd_T33 l0 ac).f1), .int .i64 ((rd_T33 l0 ac).f2)] 33 (0, 0)) (Z5 af)) (below_size (Z13)))
               have n2_ := Aside0.mk (Ye_ af)
               have n3_ := Aside0.mk (Kd.C_below (Z19 HR147) hb)
               have n4_ := Aside0.mk (Kd.C_below (Z19 HR160) hb)
               have n5_ := Aside0.mk (below_step (Z13) hb)
               clear ap
               clear af
               clear HR147
               clear HR160
               clear HB
               have ap := n0_
               have dt := n1_
               have af := n2_
               have HR147 := n3_
               have HR160 := n4_
               have HB := n5_
               clear n0_ n1_ n2_ n3_ n4_ n5_
               clear hb ho49
               refine hK.out _ _ ⟨(blk_cell af.out 0).trans rfl, (blk_cell af.out 1).trans rfl, (blk_cell af.out 2).trans rfl⟩ (fun hHeld => ?_)
               clear hK K
               refine norm_ (a' := ?_) ?_ ?_
               rotate_left
               ·show Act.put _ (some 29) _ = _
                simp only [Act.put, List.setIfInBounds_toArray, List.set_cons_zero, List.set_cons_succ, i64_w, i32_w]
                rfl
               refine two_ (i := 4) (j := 6) (Ni := some 33) (Nj := some 35) (N_ 13 1855) (N_ 13 1903) rfl rfl rfl rfl (two_of HT_.out (by kernel_rfl)) (by decide) (by decide) (fun K hK => ?_) (fun K hK => ?_)
               ·skip
                refine Kd.R_append_rows_step k33 (w0 := w) w.heap.size (by rfl) (.tmp 29) (.tmp 32) 24 33 (.agg #[(.int .i64 0), (.int .i64 0), (.int .i64 0)]) 24 rfl Tryd.underlying24 info33 rfl (by decide) (by omega) lz gv cv _ _ _ (fun k_ => some k_ ≠ (.slice eq au.length bX : Value).ownBlock ∧ k_ ≠ ak) (fun _ => False) rfl rfl ?aO ?aR (fun _ _ h => h) (fun _ h => h.elim) ?aF ?aB ?aS ?aL ?_
                (case aR => exact Z92)
                (case aB => exact Z13)
                (case aF => exact (fun k_ hk => ⟨Kd.fresh' (Yd_ ap) k_ hk, Kd.freshB (g := ak) (o := .cells #[.int .i64 ((rd_T33 l0 ac).f0), .int .i64 ((rd_T33 l0 ac).f1), .int .i64 ((rd_T33 l0 ac).f2)] 33 (0, 0)) (Z5 af) k_ hk⟩))
                (case aO => exact (Z70 dt))
                (case aS => exact (below_size (Z13)))
                (case aL => exact Z82 qr)
                intro iJ yi ho hb hg hat
                rw [← qt.out] at ho
                have n0_ := Aside0.mk (Kd.R_after (ok := (fun k_ => k_ ≠ ak)) (Z2 ap) hg hat)
                have n1_ := Aside0.mk (blk_grown (g := ak) (o := .cells #[.int .i64 ((rd_T33 l0 ac).f0), .int .i64 ((rd_T33 l0 ac).f1), .int .i64 ((rd_T33 l0 ac).f2)] 33 (0, 0)) (Z5 af) hg (Kd.R_away dt.out (fun _ hk => hk.2)))
                have n2_ := Aside0.mk (hb)
                have n3_ := Aside0.mk ((show Kd.C k33 yi eq cv.length cv from by rw [ga.out]; exact Kd.C_take (m := (aE : Int).toNat) ((Kd.R_reads' (Kd.R_after (ok := (fun k_ => k_ ≠ ak)) (Z2 ap) hg hat)).2.2) KL46.out))
                have n4_ := Aside0.mk ((show Kd.C k33 yi qT bB.length bB from by rw [gc.out, og.out]; exact Kd.C_drop (m := (aE : Int).toNat) (c := bX) ((Kd.R_reads' (Kd.R_after (ok := (fun k_ => k_ ≠ ak)) (Z2 ap) hg hat)).2.2) KL47.out ((Kd.R_reads' (Kd.R_after (ok := (fun k_ => k_ ≠ ak)) (Z2 ap) hg hat)).2.1)))
                have n5_ := Aside0.mk (ho)
                clear ap
                clear af
                clear HB
                clear HR147
                clear HR160
                clear dt
                have ap := n0_
                have af := n1_
                have HB := n2_
                have HR147 := n3_
                have HR160 := n4_
                have dS := n5_
                clear n0_ n1_ n2_ n3_ n4_ n5_
                clear ho hb hg hat
                refine hK.out _ _ ⟨(blk_cell af.out 0).trans rfl, (blk_cell af.out 1).trans rfl, (blk_cell af.out 2).trans rfl⟩ (fun hHeld => ?_)
                clear hK K
                refine norm_ (a' := ?_) ?_ ?_
                rotate_left
                ·show Act.put _ (some 33) _ = _
                 simp only [Act.put, List.setIfInBounds_toArray, List.set_cons_zero, List.set_cons_succ, i64_w, i32_w]
                 rfl
                refine one_ (i := 6) (N := some 35) (N_ 13 1919) rfl rfl (one_of HT_.out (by kernel_rfl)) (by decide) (fun K hK => ?_)
                refine Kd.R_lit_step k33 _ 33 ?hg (N := 35) ?hd (xs := ([(⟨((rd_T33 l0 ac).f0), ((rd_T33 l0 ac).f1), ((rd_T33 l0 ac).f2)⟩ : S33)] : List (S33))) (inner := [.int .i64 ((rd_T33 l0 ac).f0), .int .i64 ((rd_T33 l0 ac).f1), .int .i64 ((rd_T33 l0 ac).f2)]) (ok := fun _ => True) (okp := fun _ => True) ?hr ?hp (fun _ hk => hk) trivial (Below.refl _ _) (Nat.le_refl _) (by simp) ?_; (case hd => rfl); (case hg => rfl); (case hr => exact Z34); (case hp => exact (Reps.c3 (show Kd.M k33 _ _ _ (⟨((rd_T33 l0 ac).f0), ((rd_T33 l0 ac).f1), ((rd_T33 l0 ac).f2)⟩ : S33) [.int .i64 ((rd_T33 l0 ac).f0), .int .i64 ((rd_T33 l0 ac).f1), .int .i64 ((rd_T33 l0 ac).f2)] from (k33_mkM _ _ _ (⟨((rd_T33 l0 ac).f0), ((rd_T33 l0 ac).f1), ((rd_T33 l0 ac).f2)⟩ : S33) )) (Reps.none _ _)))
                intro d7 w51 ho52 hb hg_ hnew_
                clear hg_ hnew_
                (first | rw [← iR.out] at ho52 | (simp only [Int.reduceToNat] at ho52; rw [← iR.out] at ho52))
                have n0_ := Aside0.mk (Kd.R_elder' (Z2 ap) (Kd.R_base ho52) hb)
                have n1_ := Aside0.mk (Kd.R_elder' (Z2 dS) (Kd.R_base ho52) hb)
                have n2_ := Aside0.mk (Kd.R_lower (Kd.R_newB (Kd.R_new' (Kd.R_new' ho52 (Yd_ ap)) (Yd_ dS)) (g := ak) (o := .cells #[.int .i64 ((rd_T33 l0 ac).f0), .int .i64 ((rd_T33 l0 ac).f1), .int .i64 ((rd_T33 l0 ac).f2)] 33 (0, 0)) (Z5 af)) (below_size (Z13)))
                have n3_ := Aside0.mk (Ye_ af)
                have n4_ := Aside0.mk (Kd.C_below (Z19 HR147) hb)
                have n5_ := Aside0.mk (Kd.C_below (Z19 HR160) hb)
                have n6_ := Aside0.mk (below_step (Z13) hb)
                clear ap
                clear dS
                clear af
                clear HR147
                clear HR160
                clear HB
                have ap := n0_
                have dS := n1_
                have bv := n2_
                have af := n3_
                have HR147 := n4_
                have HR160 := n5_
                have HB := n6_
                clear n0_ n1_ n2_ n3_ n4_ n5_ n6_
                clear hb ho52
                refine hK.out _ _ ⟨(blk_cell af.out 0).trans rfl, (blk_cell af.out 1).trans rfl, (blk_cell af.out 2).trans rfl⟩ (fun hHeld => ?_)
                clear hK K
                refine norm_ (a' := ?_) ?_ ?_
                rotate_left
                ·show Act.put _ (some 35) _ = _
                 simp only [Act.put, List.setIfInBounds_toArray, List.set_cons_zero, List.set_cons_succ, i64_w, i32_w]
                 rfl
                exact norm_ (Z33) (hCont (lz, iJ, d7) _ ⟨hHeld, (Z20 dS), (Z59 bv), (Z66 ap), (Z5 af), (Z13)⟩)
               skip
               refine Kd.R_lit_step k33 _ 33 ?hg (N := 35) ?hd (xs := ([(⟨((rd_T33 l0 ac).f0), ((rd_T33 l0 ac).f1), ((rd_T33 l0 ac).f2)⟩ : S33)] : List (S33))) (inner := [.int .i64 ((rd_T33 l0 ac).f0), .int .i64 ((rd_T33 l0 ac).f1), .int .i64 ((rd_T33 l0 ac).f2)]) (ok := fun _ => True) (okp := fun _ => True) ?hr ?hp (fun _ hk => hk) trivial (Below.refl _ _) (Nat.le_refl _) (by simp) ?_; (case hd => rfl); (case hg => rfl); (case hr => exact Z34); (case hp => exact (Reps.c3 (show Kd.M k33 _ _ _ (⟨((rd_T33 l0 ac).f0), ((rd_T33 l0 ac).f1), ((rd_T33 l0 ac).f2)⟩ : S33) [.int .i64 ((rd_T33 l0 ac).f0), .int .i64 ((rd_T33 l0 ac).f1), .int .i64 ((rd_T33 l0 ac).f2)] from (k33_mkM _ _ _ (⟨((rd_T33 l0 ac).f0), ((rd_T33 l0 ac).f1), ((rd_T33 l0 ac).f2)⟩ : S33) )) (Reps.none _ _)))
               intro d7 yi ho51 hb hg_ hnew_
               clear hg_ hnew_
               (first | rw [← iR.out] at ho51 | (simp only [Int.reduceToNat] at ho51; rw [← iR.out] at ho51))
               have n0_ := Aside0.mk (Kd.R_elder' (Z2 ap) (Kd.R_base ho51) hb)
               have n1_ := Aside0.mk (Kd.R_elder' (Z2 dt) (Kd.R_base ho51) hb)
               have n2_ := Aside0.mk (Kd.R_lower (Kd.R_newB (Kd.R_new' (Kd.R_new' ho51 (Yd_ ap)) (Yd_ dt)) (g := ak) (o := .cells #[.int .i64 ((rd_T33 l0 ac).f0), .int .i64 ((rd_T33 l0 ac).f1), .int .i64 ((rd_T33 l0 ac).f2)] 33 (0, 0)) (Z5 af)) (below_size (Z13)))
               have n3_ := Aside0.mk (Ye_ af)
               have n4_ := Aside0.mk (Kd.C_below (Z19 HR147) hb)
               have n5_ := Aside0.mk (Kd.C_below (Z19 HR160) hb)
               have n6_ := Aside0.mk (below_step (Z13) hb)
               clear ap
               clear dt
               clear af
               clear HR147
               clear HR160
               clear HB
               have ap := n0_
               have dt := n1_
               have bv := n2_
               have af := n3_
               have HR147 := n4_
               have HR160 := n5_
               have HB := n6_
               clear n0_ n1_ n2_ n3_ n4_ n5_ n6_
               clear hb ho51
               refine hK.out _ _ ⟨(blk_cell af.out 0).trans rfl, (blk_cell af.out 1).trans rfl, (blk_cell af.out 2).trans rfl⟩ (fun hHeld => ?_)
               clear hK K
               refine norm_ (a' := ?_) ?_ ?_
               rotate_left
               ·show Act.put _ (some 35) _ = _
                simp only [Act.put, List.setIfInBounds_toArray, List.set_cons_zero, List.set_cons_succ, i64_w, i32_w]
                rfl
               refine one_ (i := 4) (N := some 33) (N_ 13 1919) rfl rfl (one_of HT_.out (by kernel_rfl)) (by decide) (fun K hK => ?_)
               refine Kd.R_append_rows_step k33 (w0 := w) w.heap.size (by rfl) (.tmp 29) (.tmp 32) 24 33 (.agg #[(.int .i64 0), (.int .i64 0), (.int .i64 0)]) 24 rfl Tryd.underlying24 info33 rfl (by decide) (by omega) lz gv cv _ _ _ (fun k_ => some k_ ≠ (.slice eq au.length bX : Value).ownBlock ∧ some k_ ≠ (d7 : Value).ownBlock ∧ k_ ≠ ak) (fun _ => False) rfl rfl ?aO ?aR (fun _ _ h => h) (fun _ h => h.elim) ?aF ?aB ?aS ?aL ?_
               (case aR => exact Z92)
               (case aB => exact Z13)
               (case aF => exact (fun k_ hk => ⟨Kd.fresh' (Yd_ ap) k_ hk, Kd.fresh' (Yd_ bv) k_ hk, Kd.freshB (g := ak) (o := .cells #[.int .i64 ((rd_T33 l0 ac).f0), .int .i64 ((rd_T33 l0 ac).f1), .int .i64 ((rd_T33 l0 ac).f2)] 33 (0, 0)) (Z5 af) k_ hk⟩))
               (case aO => exact (Z60 dt))
               (case aS => exact (below_size (Z13)))
               (case aL => exact Z82 qr)
               intro iJ vV ho hb hg hat
               rw [← qt.out] at ho
               have n0_ := Aside0.mk (Kd.R_after (ok := (fun k_ => some k_ ≠ (d7 : Value).ownBlock ∧ k_ ≠ ak)) (Z36 ap) hg hat)
               have n1_ := Aside0.mk (blk_grown (g := ak) (o := .cells #[.int .i64 ((rd_T33 l0 ac).f0), .int .i64 ((rd_T33 l0 ac).f1), .int .i64 ((rd_T33 l0 ac).f2)] 33 (0, 0)) (Z5 af) hg (Kd.R_away dt.out (fun _ hk => hk.1.2)))
               have n2_ := Aside0.mk (Kd.R_after (ok := (fun k_ => some k_ ≠ (.slice eq au.length bX : Value).ownBlock ∧ k_ ≠ ak)) (Z61 bv) hg hat)
               have n3_ := Aside0.mk (hb)
               have n4_ := Aside0.mk ((show Kd.C k33 vV eq cv.length cv from by rw [ga.out]; exact Kd.C_take (m := (aE : Int).toNat) ((Kd.R_reads' (Kd.R_after (ok := (fun k_ => some k_ ≠ (d7 : Value).ownBlock ∧ k_ ≠ ak)) (Z36 ap) hg hat)).2.2) KL46.out))
               have n5_ := Aside0.mk ((show Kd.C k33 vV qT bB.length bB from by rw [gc.out, og.out]; exact Kd.C_drop (m := (aE : Int).toNat) (c := bX) ((Kd.R_reads' (Kd.R_after (ok := (fun k_ => some k_ ≠ (d7 : Value).ownBlock ∧ k_ ≠ ak)) (Z36 ap) hg hat)).2.2) KL47.out ((Kd.R_reads' (Kd.R_after (ok := (fun k_ => some k_ ≠ (d7 : Value).ownBlock ∧ k_ ≠ ak)) (Z36 ap) hg hat)).2.1)))
               have n6_ := Aside0.mk (ho)
               clear ap
               clear af
               clear bv
               clear HB
               clear HR147
               clear HR160
               clear dt
               have ap := n0_
               have af := n1_
               have bv := n2_
               have HB := n3_
               have HR147 := n4_
               have HR160 := n5_
               have dS := n6_
               clear n0_ n1_ n2_ n3_ n4_ n5_ n6_
               clear ho hb hg hat
               refine hK.out _ _ ⟨(blk_cell af.out 0).trans rfl, (blk_cell af.out 1).trans rfl, (blk_cell af.out 2).trans rfl⟩ (fun hHeld => ?_)
               clear hK K
               refine norm_ (a' := ?_) ?_ ?_
               rotate_left
               ·show Act.put _ (some 33) _ = _
                simp only [Act.put, List.setIfInBounds_toArray, List.set_cons_zero, List.set_cons_succ, i64_w, i32_w]
                rfl
               exact norm_ (Z33) (hCont (lz, iJ, d7) _ ⟨hHeld, (Z28 dS), (Z20 bv), (Z20 ap), (Z5 af), (Z13)⟩)
              skip
              refine Kd.R_lit_step k33 _ 33 ?hg (N := 35) ?hd (xs := ([(⟨((rd_T33 l0 ac).f0), ((rd_T33 l0 ac).f1), ((rd_T33 l0 ac).f2)⟩ : S33)] : List (S33))) (inner := [.int .i64 ((rd_T33 l0 ac).f0), .int .i64 ((rd_T33 l0 ac).f1), .int .i64 ((rd_T33 l0 ac).f2)]) (ok := fun _ => True) (okp := fun _ => True) ?hr ?hp (fun _ hk => hk) trivial (Below.refl _ _) (Nat.le_refl _) (by simp) ?_; (case hd => rfl); (case hg => rfl); (case hr => exact Z34); (case hp => exact (Reps.c3 (show Kd.M k33 _ _ _ (⟨((rd_T33 l0 ac).f0), ((rd_T33 l0 ac).f1), ((rd_T33 l0 ac).f2)⟩ : S33) [.int .i64 ((rd_T33 l0 ac).f0), .int .i64 ((rd_T33 l0 ac).f1), .int .i64 ((rd_T33 l0 ac).f2)] from (k33_mkM _ _ _ (⟨((rd_T33 l0 ac).f0), ((rd_T33 l0 ac).f1), ((rd_T33 l0 ac).f2)⟩ : S33) )) (Reps.none _ _)))
              intro d7 oF ho49 hb hg_ hnew_
              clear hg_ hnew_
              (first | rw [← iR.out] at ho49 | (simp only [Int.reduceToNat] at ho49; rw [← iR.out] at ho49))
              have n0_ := Aside0.mk (Kd.R_elder' (Z2 ap) (Kd.R_base ho49) hb)
              have n1_ := Aside0.mk (Kd.R_lower (Kd.R_newB (Kd.R_new' ho49 (Yd_ ap)) (g := ak) (o := .cells #[.int .i64 ((rd_T33 l0 ac).f0), .int .i64 ((rd_T33 l0 ac).f1), .int .i64 ((rd_T33 l0 ac).f2)] 33 (0, 0)) (Z5 af)) (below_size (Z13)))
              have n2_ := Aside0.mk (Ye_ af)
              have n3_ := Aside0.mk (Kd.C_below (Z19 HR147) hb)
              have n4_ := Aside0.mk (Kd.C_below (Z19 HR160) hb)
              have n5_ := Aside0.mk (below_step (Z13) hb)
              clear ap
              clear af
              clear HR147
              clear HR160
              clear HB
              have ap := n0_
              have bv := n1_
              have af := n2_
              have HR147 := n3_
              have HR160 := n4_
              have HB := n5_
              clear n0_ n1_ n2_ n3_ n4_ n5_
              clear hb ho49
              refine hK.out _ _ ⟨(blk_cell af.out 0).trans rfl, (blk_cell af.out 1).trans rfl, (blk_cell af.out 2).trans rfl⟩ (fun hHeld => ?_)
              clear hK K
              refine norm_ (a' := ?_) ?_ ?_
              rotate_left
              ·show Act.put _ (some 35) _ = _
               simp only [Act.put, List.setIfInBounds_toArray, List.set_cons_zero, List.set_cons_succ, i64_w, i32_w]
               rfl
              refine one_ (i := 0) (N := some 29) (N_ 13 1903) rfl rfl (one_of HT_.out (by kernel_rfl)) (by decide) (fun K hK => ?_)
              refine Kd.R_lit_step k33 _ 33 ?hg (N := 29) ?hd (xs := ([] : List (S33))) (inner := []) (ok := fun _ => True) (okp := fun _ => True) ?hr ?hp (fun _ hk => hk) trivial (Below.refl _ _) (Nat.le_refl _) (by simp) ?_; (case hd => rfl); (case hg => rfl); (case hr => exact Z34); (case hp => exact (Reps.none _ _))
              intro lz yi ho51 hb hg_ hnew_
              clear hg_ hnew_
              (first | rw [← nJ.out] at ho51 | (simp only [Int.reduceToNat] at ho51; rw [← nJ.out] at ho51))
              have n0_ := Aside0.mk (Kd.R_elder' (Z2 ap) (Kd.R_base ho51) hb)
              have n1_ := Aside0.mk (Kd.R_elder' (Z2 bv) (Kd.R_base ho51) hb)
              have n2_ := Aside0.mk (Kd.R_lower (Kd.R_newB (Kd.R_new' (Kd.R_new' ho51 (Yd_ ap)) (Yd_ bv)) (g := ak) (o := .cells #[.int .i64 ((rd_T33 l0 ac).f0), .int .i64 ((rd_T33 l0 ac).f1), .int .i64 ((rd_T33 l0 ac).f2)] 33 (0, 0)) (Z5 af)) (below_size (Z13)))
              have n3_ := Aside0.mk (Ye_ af)
              have n4_ := Aside0.mk (Kd.C_below (Z19 HR147) hb)
              have n5_ := Aside0.mk (Kd.C_below (Z19 HR160) hb)
              have n6_ := Aside0.mk (below_step (Z13) hb)
              clear ap
              clear bv
              clear af
              clear HR147
              clear HR160
              clear HB
              have ap := n0_
              have bv := n1_
              have dt := n2_
              have af := n3_
              have HR147 := n4_
              have HR160 := n5_
              have HB := n6_
              clear n0_ n1_ n2_ n3_ n4_ n5_ n6_
              clear hb ho51
              refine hK.out _ _ ⟨(blk_cell af.out 0).trans rfl, (blk_cell af.out 1).trans rfl, (blk_cell af.out 2).trans rfl⟩ (fun hHeld => ?_)
              clear hK K
              refine norm_ (a' := ?_) ?_ ?_
              rotate_left
              ·show Act.put _ (some 29) _ = _
               simp only [Act.put, List.setIfInBounds_toArray, List.set_cons_zero, List.set_cons_succ, i64_w, i32_w]
               rfl
              refine one_ (i := 4) (N := some 33) (N_ 13 1919) rfl rfl (one_of HT_.out (by kernel_rfl)) (by decide) (fun K hK => ?_)
              refine Kd.R_append_rows_step k33 (w0 := w) w.heap.size (by rfl) (.tmp 29) (.tmp 32) 24 33 (.agg #[(.int .i64 0), (.int .i64 0), (.int .i64 0)]) 24 rfl Tryd.underlying24 info33 rfl (by decide) (by omega) lz gv cv _ _ _ (fun k_ => some k_ ≠ (.slice eq au.length bX : Value).ownBlock ∧ some k_ ≠ (d7 : Value).ownBlock ∧ k_ ≠ ak) (fun _ => False) rfl rfl ?aO ?aR (fun _ _ h => h) (fun _ h => h.elim) ?aF ?aB ?aS ?aL ?_
              (case aR => exact Z92)
              (case aB => exact Z13)
              (case aF => exact (fun k_ hk => ⟨Kd.fresh' (Yd_ ap) k_ hk, Kd.fresh' (Yd_ bv) k_ hk, Kd.freshB (g := ak) (o := .cells #[.int .i64 ((rd_T33 l0 ac).f0), .int .i64 ((rd_T33 l0 ac).f1), .int .i64 ((rd_T33 l0 ac).f2)] 33 (0, 0)) (Z5 af) k_ hk⟩))
              (case aO => exact (Z62 dt))
              (case aS => exact (below_size (Z13)))
              (case aL => exact Z82 qr)
              intro iJ vV ho hb hg hat
              rw [← qt.out] at ho
              have n0_ := Aside0.mk (Kd.R_after (ok := (fun k_ => some k_ ≠ (d7 : Value).ownBlock ∧ k_ ≠ ak)) (Z37 ap) hg hat)
              have n1_ := Aside0.mk (blk_grown (g := ak) (o := .cells #[.int .i64 ((rd_T33 l0 ac).f0), .int .i64 ((rd_T33 l0 ac).f1), .int .i64 ((rd_T33 l0 ac).f2)] 33 (0, 0)) (Z5 af) hg (Kd.R_away dt.out (fun _ hk => hk.2)))
              have n2_ := Aside0.mk (Kd.R_after (ok := (fun k_ => some k_ ≠ (.slice eq au.length bX : Value).ownBlock ∧ k_ ≠ ak)) (Z63 bv) hg hat)
              have n3_ := Aside0.mk (hb)
              have n4_ := Aside0.mk ((show Kd.C k33 vV eq cv.length cv from by rw [ga.out]; exact Kd.C_take (m := (aE : Int).toNat) ((Kd.R_reads' (Kd.R_after (ok := (fun k_ => some k_ ≠ (d7 : Value).ownBlock ∧ k_ ≠ ak)) (Z37 ap) hg hat)).2.2) KL46.out))
              have n5_ := Aside0.mk ((show Kd.C k33 vV qT bB.length bB from by rw [gc.out, og.out]; exact Kd.C_drop (m := (aE : Int).toNat) (c := bX) ((Kd.R_reads' (Kd.R_after (ok := (fun k_ => some k_ ≠ (d7 : Value).ownBlock ∧ k_ ≠ ak)) (Z37 ap) hg hat)).2.2) KL47.out ((Kd.R_reads' (Kd.R_after (ok := (fun k_ => some k_ ≠ (d7 : Value).ownBlock ∧ k_ ≠ ak)) (Z37 ap) hg hat)).2.1)))
              have n6_ := Aside0.mk (ho)
              clear ap
              clear af
              clear bv
              clear HB
              clear HR147
              clear HR160
              clear dt
              have ap := n0_
              have af := n1_
              have bv := n2_
              have HB := n3_
              have HR147 := n4_
              have HR160 := n5_
              have dS := n6_
              clear n0_ n1_ n2_ n3_ n4_ n5_ n6_
              clear ho hb hg hat
              refine hK.out _ _ ⟨(blk_cell af.out 0).trans rfl, (blk_cell af.out 1).trans rfl, (blk_cell af.out 2).trans rfl⟩ (fun hHeld => ?_)
              clear hK K
              refine norm_ (a' := ?_) ?_ ?_
              rotate_left
              ·show Act.put _ (some 33) _ = _
               simp only [Act.put, List.setIfInBounds_toArray, List.set_cons_zero, List.set_cons_succ, i64_w, i32_w]
               rfl
              exact norm_ (Z33) (hCont (lz, iJ, d7) _ ⟨hHeld, (Z28 dS), (Z20 bv), (Z20 ap), (Z5 af), (Z13)⟩)
             rintro ⟨lz, iJ, d7⟩ tz ⟨hS_, h0_, h1_, h2_, h3_, h4_⟩
             have n0_ : Aside0 (Kd.R k33 33 tz w.heap.size (fun k_ => some k_ ≠ (d7 : Value).ownBlock ∧ some k_ ≠ (.slice eq au.length bX : Value).ownBlock ∧ k_ ≠ ak) iJ ep) := ⟨h0_⟩
             have n1_ : Aside0 (Kd.R k33 33 tz w.heap.size (fun k_ => some k_ ≠ (iJ : Value).ownBlock ∧ some k_ ≠ (.slice eq au.length bX : Value).ownBlock ∧ k_ ≠ ak) d7 cj) := ⟨h1_⟩
             have n2_ : Aside0 (Kd.R k33 33 tz w.heap.size (fun k_ => some k_ ≠ (iJ : Value).ownBlock ∧ some k_ ≠ (d7 : Value).ownBlock ∧ k_ ≠ ak) (.slice eq au.length bX) au) := ⟨h2_⟩
             have n3_ : Aside0 (tz.heap[ak]? = some (.cells #[.int .i64 ((rd_T33 l0 ac).f0), .int .i64 ((rd_T33 l0 ac).f1), .int .i64 ((rd_T33 l0 ac).f2)] 33 (0, 0))) := ⟨h3_⟩
             have n4_ : Aside0 (Below w.heap.size w tz) := ⟨h4_⟩
             clear ap
             clear af
             clear HB
             clear h0_ h1_ h2_ h3_ h4_
             have dS := n0_
             have bv := n1_
             have ap := n2_
             have af := n3_
             have HB := n4_
             clear n0_ n1_ n2_ n3_ n4_
             have hHeld : tz.cell? ⟨ak, 0, none⟩ = some (.int .i64 ((rd_T33 l0 ac).f0)) ∧ tz.cell? ⟨ak, 1, none⟩ = some (.int .i64 ((rd_T33 l0 ac).f1)) ∧ tz.cell? ⟨ak, 2, none⟩ = some (.int .i64 ((rd_T33 l0 ac).f2)) := hS_
             have n_ := Aside0.mk (show Kd.C k33 _ eq cv.length cv from by rw [ga.out]; exact Kd.C_take (m := (aE : Int).toNat) ((Kd.R_reads' ap.out).2.2) KL46.out)
             (try clear HR147)
             have HR147 := n_
             clear n_
             have n_ := Aside0.mk (show Kd.C k33 _ qT bB.length bB from by rw [gc.out, og.out]; exact Kd.C_drop (m := (aE : Int).toNat) (c := bX) ((Kd.R_reads' ap.out).2.2) KL47.out ((Kd.R_reads' ap.out).2.1))
             (try clear HR160)
             have HR160 := n_
             clear n_
             obtain ⟨hZ, ia, rf⟩ := Kd.R_slice bv.out
             (first | subst rf | (injection rf with f1_ f2_ f3_; have f4_ := f1_.symm; have f5_ := f3_.symm; clear f1_ f2_ f3_; subst f4_; subst f5_))
             refine norm_ (a' := ?_) ?_ ?_
             rotate_left
             ·simp only [putAll, Act.put, List.setIfInBounds_toArray, List.set_cons_zero, List.set_cons_succ]
              rfl
             refine one_ (i := 7) (N := some 36) (M_ 11 2) rfl rfl (one_of HT_.out (by kernel_rfl)) (by decide) (fun K hK => ?_)
             refine Kd.R_append_rows_step k33 (w0 := w) w.heap.size (by rfl) (.tmp 33) (.tmp 35) 24 33 (.agg #[(.int .i64 0), (.int .i64 0), (.int .i64 0)]) 24 rfl Tryd.underlying24 info33 rfl (by decide) (by omega) iJ ep cj _ _ _ (fun k_ => some k_ ≠ (.slice eq au.length bX : Value).ownBlock ∧ some k_ ≠ (.slice hZ cj.length ia : Value).ownBlock ∧ k_ ≠ ak) (fun _ => False) rfl rfl ?aO ?aR (fun _ _ h => h) (fun _ h => h.elim) ?aF ?aB ?aS ?aL ?_
             (case aR => exact Z4 bv)
             (case aB => exact Z13)
             (case aF => exact (fun k_ hk => ⟨Kd.fresh' (Yd_ ap) k_ hk, Kd.fresh' (Yd_ bv) k_ hk, Kd.freshB (g := ak) (o := .cells #[.int .i64 ((rd_T33 l0 ac).f0), .int .i64 ((rd_T33 l0 ac).f1), .int .i64 ((rd_T33 l0 ac).f2)] 33 (0, 0)) (Z5 af) k_ hk⟩))
             (case aO => exact (Z28 dS))
             (case aS => exact (below_size (Z13)))
             (case aL => exact Z82 LMc40)
             intro v155 yM ho hb hg hat
             rw [← Ny154.out] at ho
             have n0_ := Aside0.mk (Kd.R_after (ok := (fun k_ => some k_ ≠ (.slice hZ cj.length ia : Value).ownBlock ∧ k_ ≠ ak)) (Z29 ap) hg hat)
             have n1_ := Aside0.mk (blk_grown (g := ak) (o := .cells #[.int .i64 ((rd_T33 l0 ac).f0), .int .i64 ((rd_T33 l0 ac).f1), .int .i64 ((rd_T33 l0 ac).f2)] 33 (0, 0)) (Z5 af) hg (Kd.R_away dS.out (fun _ hk => hk.2.2)))
             have n2_ := Aside0.mk (Kd.R_after (ok := (fun k_ => some k_ ≠ (.slice eq au.length bX : Value).ownBlock ∧ k_ ≠ ak)) (Z29 bv) hg hat)
             have n3_ := Aside0.mk (hb)
             have n4_ := Aside0.mk ((show Kd.C k33 yM eq cv.length cv from by rw [ga.out]; exact Kd.C_take (m := (aE : Int).toNat) ((Kd.R_reads' (Kd.R_after (ok := (fun k_ => some k_ ≠ (.slice hZ cj.length ia : Value).ownBlock ∧ k_ ≠ ak)) (Z29 ap) hg hat)).2.2) KL46.out))
             have n5_ := Aside0.mk ((show Kd.C k33 yM qT bB.length bB from by rw [gc.out, og.out]; exact Kd.C_drop (m := (aE : Int).toNat) (c := bX) ((Kd.R_reads' (Kd.R_after (ok := (fun k_ => some k_ ≠ (.slice hZ cj.length ia : Value).ownBlock ∧ k_ ≠ ak)) (Z29 ap) hg hat)).2.2) KL47.out ((Kd.R_reads' (Kd.R_after (ok := (fun k_ => some k_ ≠ (.slice hZ cj.length ia : Value).ownBlock ∧ k_ ≠ ak)) (Z29 ap) hg hat)).2.1)))
             have n6_ := Aside0.mk (ho)
             clear ap
             clear af
             clear bv
             clear HB
             clear HR147
             clear HR160
             clear dS
             have ap := n0_
             have af := n1_
             have bv := n2_
             have HB := n3_
             have HR147 := n4_
             have HR160 := n5_
             have qu := n6_
             clear n0_ n1_ n2_ n3_ n4_ n5_ n6_
             clear ho hb hg hat
             refine hK.out _ _ ⟨(blk_cell af.out 0).trans rfl, (blk_cell af.out 1).trans rfl, (blk_cell af.out 2).trans rfl⟩ (fun hHeld => ?_)
             clear hK K
             refine norm_ (a' := ?_) ?_ ?_
             rotate_left
             ·show Act.put _ (some 36) _ = _
              simp only [Act.put, List.setIfInBounds_toArray, List.set_cons_zero, List.set_cons_succ, i64_w, i32_w]
              rfl
             refine one_ (i := 11) (N := some 40) (M_ 12 1) rfl rfl (one_of HT_.out (by kernel_rfl)) (by decide) (fun K hK => ?_)
             refine Kd.R_append_rows_step k33 (w0 := w) w.heap.size (by rfl) (.tmp 36) (.tmp 39) 24 33 (.agg #[(.int .i64 0), (.int .i64 0), (.int .i64 0)]) 24 rfl Tryd.underlying24 info33 rfl (by decide) (by omega) v155 dl bB _ _ _ (fun k_ => some k_ ≠ (.slice eq au.length bX : Value).ownBlock ∧ some k_ ≠ (.slice hZ cj.length ia : Value).ownBlock ∧ k_ ≠ ak) (fun _ => False) rfl rfl ?aO ?aR (fun _ _ h => h) (fun _ h => h.elim) ?aF ?aB ?aS ?aL ?_
             (case aR => repeat (first | exact (Z19 HR160) | (with_reducible refine Kd.C_alloc ?_ _) | (with_reducible refine Kd.C_drewN ?_ _) | (with_reducible refine Kd.C_drew ?_)))
             (case aB => exact Z13)
             (case aF => exact (fun k_ hk => ⟨Kd.fresh' (Yd_ ap) k_ hk, Kd.fresh' (Yd_ bv) k_ hk, Kd.freshB (g := ak) (o := .cells #[.int .i64 ((rd_T33 l0 ac).f0), .int .i64 ((rd_T33 l0 ac).f1), .int .i64 ((rd_T33 l0 ac).f2)] 33 (0, 0)) (Z5 af) k_ hk⟩))
             (case aO => exact (Z2 qu))
             (case aS => exact (below_size (Z13)))
             (case aL => exact Z82 LMc43)
             intro v162 yw ho hb hg hat
             rw [← Ny161.out] at ho
             have n0_ := Aside0.mk (Kd.R_after (ok := (fun k_ => some k_ ≠ (.slice hZ cj.length ia : Value).ownBlock ∧ k_ ≠ ak)) (Z2 ap) hg hat)
             have n1_ := Aside0.mk (blk_grown (g := ak) (o := .cells #[.int .i64 ((rd_T33 l0 ac).f0), .int .i64 ((rd_T33 l0 ac).f1), .int .i64 ((rd_T33 l0 ac).f2)] 33 (0, 0)) (Z5 af) hg (Kd.R_away qu.out (fun _ hk => hk.2.2)))
             have n2_ := Aside0.mk (Kd.R_after (ok := (fun k_ => some k_ ≠ (.slice eq au.length bX : Value).ownBlock ∧ k_ ≠ ak)) (Z2 bv) hg hat)
             have n3_ := Aside0.mk (hb)
             have n4_ := Aside0.mk ((show Kd.C k33 yw eq cv.length cv from by rw [ga.out]; exact Kd.C_take (m := (aE : Int).toNat) ((Kd.R_reads' (Kd.R_after (ok := (fun k_ => some k_ ≠ (.slice hZ cj.length ia : Value).ownBlock ∧ k_ ≠ ak)) (Z2 ap) hg hat)).2.2) KL46.out))
             have n5_ := Aside0.mk ((show Kd.C k33 yw qT bB.length bB from by rw [gc.out, og.out]; exact Kd.C_drop (m := (aE : Int).toNat) (c := bX) ((Kd.R_reads' (Kd.R_after (ok := (fun k_ => some k_ ≠ (.slice hZ cj.length ia : Value).ownBlock ∧ k_ ≠ ak)) (Z2 ap) hg hat)).2.2) KL47.out ((Kd.R_reads' (Kd.R_after (ok := (fun k_ => some k_ ≠ (.slice hZ cj.length ia : Value).ownBlock ∧ k_ ≠ ak)) (Z2 ap) hg hat)).2.1)))
             have n6_ := Aside0.mk (ho)
             clear ap
             clear af
             clear bv
             clear HB
             clear HR147
             clear HR160
             clear qu
             have ap := n0_
             have af := n1_
             have bv := n2_
             have HB := n3_
             have HR147 := n4_
             have HR160 := n5_
             have HO163 := n6_
             clear n0_ n1_ n2_ n3_ n4_ n5_ n6_
             clear ho hb hg hat
             refine hK.out _ _ ⟨(blk_cell af.out 0).trans rfl, (blk_cell af.out 1).trans rfl, (blk_cell af.out 2).trans rfl⟩ (fun hHeld => ?_)
             clear hK K
             refine norm_ (a' := ?_) ?_ ?_
             rotate_left
             ·show Act.put _ (some 40) _ = _
              simp only [Act.put, List.setIfInBounds_toArray, List.set_cons_zero, List.set_cons_succ, i64_w, i32_w]
              rfl
             refine pu_ 12 4 (M_ 13 0) ?_
             refine done_ (done_of HT_.out (by kernel_rfl)) ?_
             try go_wp2
             go_roundg k2
             case measure => have := HK1.out; have := HK2.out; omega
             case rel => exact ⟨(xr), (wrap64 (ac + 1)), (Z14), H', ⟨by have := HK1.out; have := HK2.out; omega⟩, ⟨Z26 HO163⟩, ⟨Z13⟩⟩
            rw [if_neg c43] at H
            exact absurd H (by simp)
           rw [if_neg c40] at H
           exact absurd H (by simp)
          rw [if_neg c39] at H
          exact absurd H (by simp)
         rw [if_neg c38] at H
         exact absurd H (by simp)
        rw [if_neg c37] at H
        exact absurd H (by simp)
     rw [if_neg c4] at H
     exact absurd H (by simp)
    rw [if_neg c3] at H
    exact absurd H (by simp)
   rw [if_neg c2] at H
   have eN : decide (ac < (l0.length : Int)) = false := decide_eq_false c2
   clear c2
   replace H := Option.bind_eq_some_iff.mp H
   obtain ⟨uY, xt, H⟩ := H
   (try dsimp only at H)
   have yN := Aside0.mk xt
   clear xt
   by_cases c58 : uY = true
   ·subst c58
    rw [if_pos rfl] at H
    simp only [Option.some.injEq, Prod.mk.injEq] at H
    obtain ⟨rfl, rfl⟩ := H
    obtain ⟨xb, xc, uI⟩ := Kd.R_slice ap.out
    subst uI
    go_wp2_with (first | ((with_reducible refine gate_callee (f := 33) rfl ?_); refine gl_ 43 Tryd.func33 #[.slice xb au.length xc] ?_; (with_reducible refine (spec_cyGood.calls k1 _ _ au true _ ?_ ?_ yN.out).mono ?_); exact (Z4 ap); exact (Kd.R_reads' ap.out).2.1; rintro e w60 ⟨rfl, hb⟩; refine ⟨_, rfl, ?_⟩; refine k2_ (Ya_ ap) (below_step (Z1) hb) ?_; clear ap HB; intro ap HB; (try clear hb)))
    go_ret2
    exact ⟨_, Z11, Z2 ap, Z1⟩
   replace c58 := Bool.eq_false_iff.mpr c58
   subst c58
   rw [if_neg (show ¬ (false = true) by decide)] at H
   simp only [Option.some.injEq, Prod.mk.injEq] at H
   obtain ⟨rfl, rfl⟩ := H
   obtain ⟨ex, ey, pK⟩ := Kd.R_slice ap.out
   subst pK
   go_wp2_with (first | ((with_reducible refine gate_callee (f := 33) rfl ?_); refine gl_ 43 Tryd.func33 #[.slice ex au.length ey] ?_; (with_reducible refine (spec_cyGood.calls k1 _ _ au false _ ?_ ?_ yN.out).mono ?_); exact (Z4 ap); exact (Kd.R_reads' ap.out).2.1; rintro e yO ⟨rfl, hb⟩; refine ⟨_, rfl, ?_⟩; refine k2_ (Ya_ ap) (below_step (Z1) hb) ?_; clear ap HB; intro ap HB; (try clear hb)))
   go_ret2
   exact ⟨_, Z11, Z21, Z1⟩

end Go.Proofs.YtdipcpcbclobpaaDoor.PFnPins
