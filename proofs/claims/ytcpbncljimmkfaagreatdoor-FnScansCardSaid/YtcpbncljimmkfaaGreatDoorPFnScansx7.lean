-- written by a program of this session: the kit's print, with outer functions of the session's own (wip/ext)
import Derived.Test.YtcpbncljimmkfaaGreatDoorPFnScansx0
import Derived.Test.YtcpbncljimmkfaaGreatDoorPFnScansx6
namespace Go.Proofs.YtcpbncljimmkfaaGreatDoor.PFnScans
open Go.RowKit Go.Proofs.YtcpbncljimmkfaaGreatDoorW.PrintWords Go.Proofs.YtcpbncljimmkfaaGreatDoorW.PrintLast Go.Proofs.YtcpbncljimmkfaaGreatDoorW.PrintMore
attribute [local go_sem] max2_int min2_int max_two min_two max_three min_three max_four min_four   -- for this text's walks alone
set_option linter.unusedVariables false
set_option linter.unusedSimpArgs false
theorem mo7_ {p : Prop} (h : p := by repeat' first | (with_reducible first | apply ih0 | apply ih0 | apply ih1 | apply ih1 | apply ih2 | apply ih2 | exact LeO.refl _ | exact LeO.none _ | refine LeO.ite ?_ ?_ | refine LeO.bind ?_ (fun _ => ?_)) | exact LeO.none _ | refine LeO.ite ?_ ?_ | refine LeO.bind ?_ (fun _ => ?_)) : p := h

/-! ### impl_IsSheet: function 28 -/
mutual
def impl_IsSheet.l0 : Nat → List (S55) → List (S55) → Int → Int → Option (Bool)
 | 0, _, _, _, _ => none
 | k + 1, x0, x10, x11, x12 => if x12 < x11 then (if 0 ≤ x12 then (if x12 < (x10.length : Int) then ((impl_IsHole.f ((rd_T55 x10 x12).f0) ((rd_T55 x10 x12).f1) ((rd_T55 x10 x12).f2)).bind fun zH => (if zH = true then (if x12 > 0 then (if 0 ≤ (wrap64 (x12 - 1)) then (if (wrap64 (x12 - 1)) < (x0.length : Int) then ((impl_holeLess.f ((rd_T55 x0 (wrap64 (x12 - 1))).f0) ((rd_T55 x0 (wrap64 (x12 - 1))).f1) ((rd_T55 x0 (wrap64 (x12 - 1))).f2) ((rd_T55 x10 x12).f0) ((rd_T55 x10 x12).f1) ((rd_T55 x10 x12).f2)).bind fun ro => (impl_IsSheet.j1 k x0 x12 x10 x11 x12 (!ro) ((rd_T55 x10 x12).f0) ((rd_T55 x10 x12).f1) ((rd_T55 x10 x12).f2))) else (none)) else (none)) else (impl_IsSheet.j1 k x0 x12 x10 x11 x12 false ((rd_T55 x10 x12).f0) ((rd_T55 x10 x12).f1) ((rd_T55 x10 x12).f2))) else (impl_IsSheet.j1 k x0 x12 x10 x11 x12 true ((rd_T55 x10 x12).f0) ((rd_T55 x10 x12).f1) ((rd_T55 x10 x12).f2)))) else (none)) else (none)) else (some true)
def impl_IsSheet.j1 : Nat → List (S55) → Int → List (S55) → Int → Int → Bool → Int → Int → Int → Option (Bool)
 | 0, _, _, _, _, _, _, _, _, _ => none
 | k + 1, x0, x3, x10, x11, x12, x33, gH, gI, iG => if x33 = true then (some false) else (if 0 ≤ x3 then (if x3 ≤ (x0.length : Int) then ((some (x0.take (x3 : Int).toNat : List (S55))).bind fun dz => (impl_IsSheet.l1 k x0 x10 x11 x12 dz (dz.length : Int) 0 gH gI iG)) else (none)) else (none))
def impl_IsSheet.l1 : Nat → List (S55) → List (S55) → Int → Int → List (S55) → Int → Int → Int → Int → Int → Option (Bool)
 | 0, _, _, _, _, _, _, _, _, _, _ => none
 | k + 1, x0, x10, x11, x12, x36, x37, x38, gH, gI, iG => if x38 < x37 then (if 0 ≤ x38 then (if x38 < (x36.length : Int) then (if ((rd_T55 x36 x38).f0) = gH then (if ((rd_T55 x36 x38).f2) ≥ gI then (some false) else (impl_IsSheet.l1 k x0 x10 x11 x12 x36 x37 (wrap64 (x38 + 1)) gH gI iG)) else (impl_IsSheet.l1 k x0 x10 x11 x12 x36 x37 (wrap64 (x38 + 1)) gH gI iG)) else (none)) else (none)) else (impl_IsSheet.l0 k x0 x10 x11 (wrap64 (x12 + 1)))
end
def impl_IsSheet.f (k : Nat) (l0 : List (S55)) : Option (Bool) := if (l0.length : Int) > 60 then (some false) else (impl_IsSheet.l0 k l0 l0 (l0.length : Int) 0)
theorem impl_IsSheet.mono_l : ∀ k, (∀ y0 y1 y2 y3, LeO (impl_IsSheet.l0 k y0 y1 y2 y3) (impl_IsSheet.l0 (k + 1) y0 y1 y2 y3)) ∧ (∀ y0 y1 y2 y3 y4 y5 y6 y7 y8, LeO (impl_IsSheet.j1 k y0 y1 y2 y3 y4 y5 y6 y7 y8) (impl_IsSheet.j1 (k + 1) y0 y1 y2 y3 y4 y5 y6 y7 y8)) ∧ (∀ y0 y1 y2 y3 y4 y5 y6 y7 y8 y9, LeO (impl_IsSheet.l1 k y0 y1 y2 y3 y4 y5 y6 y7 y8 y9) (impl_IsSheet.l1 (k + 1) y0 y1 y2 y3 y4 y5 y6 y7 y8 y9))
 | 0 => ⟨fun _ _ _ _ r h => by simp [impl_IsSheet.l0] at h, fun _ _ _ _ _ _ _ _ _ r h => by simp [impl_IsSheet.j1] at h, fun _ _ _ _ _ _ _ _ _ _ r h => by simp [impl_IsSheet.l1] at h⟩
 | k + 1 => by
  obtain ⟨ih0, ih1, ih2⟩ := impl_IsSheet.mono_l k
  refine ⟨?_, ?_, ?_⟩
  ·intro y0 y1 y2 y3
   unfold impl_IsSheet.l0
   exact mo7_
  ·intro y0 y1 y2 y3 y4 y5 y6 y7 y8
   unfold impl_IsSheet.j1
   exact mo7_
  intro y0 y1 y2 y3 y4 y5 y6 y7 y8 y9
  unfold impl_IsSheet.l1
  exact mo7_
theorem impl_IsSheet.mono : ∀ a0 k, LeO (impl_IsSheet.f k a0) (impl_IsSheet.f (k + 1) a0) := by
 intro a0 k
 obtain ⟨ih0, ih1, ih2⟩ := impl_IsSheet.mono_l k
 unfold impl_IsSheet.f
 exact mo7_
def impl_IsSheet.T6 : Bool × List (List Nat × List Nat) := (true, [([], []), ([0], [0]), ([1], [1]), ([2, 1], [2]), ([3], [3]), ([4, 3], [3, 4]), ([5, 3, 3], [3, 5]), ([6], [6]), ([6], [6]), ([8, 6], [6, 8]), ([7, 9, 6], [6, 7, 9]), ([10, 6], [6, 10]), ([6], [6]), ([11, 12, 6, 6], [6, 11, 12]), ([13, 6], [6, 13]), ([6, 14, 3], [3, 6, 14]), ([3, 15], [3, 15])])
def impl_IsSheet.B6 : List Nat := [0, 1, 3, 7, 15, 31, 63, 127, 127, 383, 1023, 2047, 127, 8191, 16383, 32767, 65535]
theorem impl_IsSheet.tab6 : rtab .any (opsOf Tryz.f28 6) = impl_IsSheet.T6 := by kernel_rfl
theorem impl_IsSheet.bits6 : waitsOk impl_IsSheet.T6.2 impl_IsSheet.B6 = true := by kernel_rfl
set_option maxHeartbeats 8000000 in
set_option maxRecDepth 100000 in
theorem impl_IsSheet.calls (k : Nat) (A0 : Option Addr) (c0 : Nat) (l0 : List (S55)) (r : Bool) (w : World) (hr0 : Kd.C k55 w A0 l0.length l0) (hc0 : l0.length ≤ c0) (h : impl_IsSheet.f k l0 = some r) :
  Calls Tryz.prog 28 #[.slice A0 l0.length c0] w fun e w' => e = .returned (.bool r) ∧ Below w.heap.size w w' := by
 have hu55 := Tryz.underlying55
 have HR0 := Aside0.mk hr0
 have HC0 := Aside0.mk hc0
 clear hr0 hc0
 have HB := Aside0.mk (Below.refl w.heap.size w)
 have H : (if (l0.length : Int) > 60 then (some false) else (impl_IsSheet.l0 k l0 l0 (l0.length : Int) 0)) = some r := h
 clear h
 by_cases c2 : (l0.length : Int) > 60
 ·rw [if_pos c2] at H
  have eu : decide (60 < (l0.length : Int)) = true := decide_eq_true c2
  have qG : decide (60 < l0.length) = true := decide_eq_true (by omega)
  clear c2
  obtain rfl := Option.some.inj H
  go_enter Tryz.func28, Tryz.ntmps28
  go_wp2
  go_ret
  exact ⟨Z9, Z2⟩
 rw [if_neg c2] at H
 have eu : decide (60 < (l0.length : Int)) = false := decide_eq_false c2
 have qG : decide (60 < l0.length) = false := decide_eq_false (by omega)
 clear c2
 have H' := Aside0.mk H
 clear H
 go_enter Tryz.func28, Tryz.ntmps28
 go_wp2
 go_loopg [12] k (fun kq CC w' => ∃ (ac : Int), CC = .int .i64 ac ∧ Aside0 (impl_IsSheet.l0 kq l0 l0 (l0.length : Int) ac = some r) ∧ Aside0 (kq ≤ k) ∧ Aside0 (Below w.heap.size w w'))
 case atStart => exact ⟨(0), (Z11), H', ⟨Nat.le_refl _⟩, ⟨Z2⟩⟩
 case round =>
  clear H'
  (try clear c2); (try clear eu); (try clear qG)
  obtain ⟨ac, rfl, HA, HK1, HB⟩ := hrel
  cases gk with
  | zero => exact absurd HA.out (by simp [impl_IsSheet.l0])
  | succ k1 =>
   have H := HA.out
   clear HA
   simp only [impl_IsSheet.l0] at H
   by_cases c3 : ac < (l0.length : Int)
   ·rw [if_pos c3] at H
    have bA : decide (ac < (l0.length : Int)) = true := decide_eq_true c3
    clear c3
    by_cases c4 : 0 ≤ ac
    case neg => rw [if_neg c4] at H; exact absurd H (by simp)
    rw [if_pos c4] at H
    have bZ : decide (0 ≤ ac) = true := decide_eq_true c4
    clear c4
    by_cases c5 : ac < (l0.length : Int)
    case neg => rw [if_neg c5] at H; exact absurd H (by simp)
    rw [if_pos c5] at H
    have ci : decide (ac < (l0.length : Int)) = true := decide_eq_true c5
    clear c5
    have HC6 := Aside0.mk H
    clear H
    have vA : 0 ≤ (ac : Int) := of_decide_eq_true (Z8)
    have vB : ac < (l0.length : Int) := of_decide_eq_true (Z8)
    obtain ⟨fy, e341, iH, iI, iJ⟩ := at_T55 HR0.out ac vA vB
    cases e341
    replace iH := (HB.out.cell (World.block_lt_of_cell? w _ iH)).trans iH
    replace iI := (HB.out.cell (World.block_lt_of_cell? w _ iI)).trans iI
    replace iJ := (HB.out.cell (World.block_lt_of_cell? w _ iJ)).trans iJ
    replace vA := eq_true vA
    replace vB := eq_true vB
    go_upto_region 6 with ((with_reducible refine gate_dst (N := 4) rfl ?_); refine bv_ 4 55 #[.int .i64 0, .int .i64 0, .int .i64 0] ?_; intro aT hg w7 hbox hb; refine k4_ (below_step (Z2) hb) (hbox) ((Z33 : w.heap.size ≤ aT)) ((Z33 : w.heap.size ≤ aT)) ?_; clear HB; intro HB az GW342 vJ; clear hb hbox hg; obtain ⟨gQ, i7, i8, jd, i9, ja⟩ := bx3_ (w := w7) az.out)
    (try simp only [Act.put, List.setIfInBounds_toArray, List.set_cons_zero, List.set_cons_succ])
    go_cut [33] (fun v33 wc => ∃ (kq : Nat) (qp : Bool), v33 = .bool qp ∧ Aside0 (impl_IsSheet.j1 kq l0 ac l0 (l0.length : Int) ac qp ((rd_T55 l0 ac).f0) ((rd_T55 l0 ac).f1) ((rd_T55 l0 ac).f2) = some r) ∧ Aside0 (kq ≤ k1) ∧ Aside0 (wc.heap[aT]? = some (.cells #[.int .i64 ((rd_T55 l0 ac).f0), .int .i64 ((rd_T55 l0 ac).f1), .int .i64 ((rd_T55 l0 ac).f2)] 55 (0, 0))) ∧ Aside0 (Below w.heap.size w wc))
    case first =>
     have H := HC6.out
     clear HC6
     obtain ⟨zH, A9, H⟩ := bd_ H
     (try dsimp only at H)
     by_cases c10 : zH = true
     ·subst c10
      rw [if_pos rfl] at H
      by_cases c11 : ac > 0
      ·rw [if_pos c11] at H
       have eM : decide (0 < ac) = true := decide_eq_true c11
       clear c11
       (first | rw [eM] | (simp only [i64_w, i32_w]; rw [eM]) | skip)
       obtain ⟨dl, hji12⟩ : ∃ j_ : Int, (wrap64 (ac - 1)) = j_ := ⟨_, rfl⟩
       replace H : (if 0 ≤ (dl) then (if (dl) < (l0.length : Int) then ((impl_holeLess.f ((rd_T55 l0 (dl)).f0) ((rd_T55 l0 (dl)).f1) ((rd_T55 l0 (dl)).f2) ((rd_T55 l0 ac).f0) ((rd_T55 l0 ac).f1) ((rd_T55 l0 ac).f2)).bind fun ro => (impl_IsSheet.j1 k1 l0 ac l0 (l0.length : Int) ac (!ro) ((rd_T55 l0 ac).f0) ((rd_T55 l0 ac).f1) ((rd_T55 l0 ac).f2))) else (none)) else (none)) = some r := by first | (rw [hji12] at H; exact H) | (simp only [hji12] at H ⊢; exact H)
       (try rw [hji12] at A9)
       have hji12w : (IntKind.i64.wrap (ac - 1)) = dl := (i64_w _).trans hji12
       by_cases c13 : 0 ≤ (dl)
       case neg => rw [if_neg c13] at H; exact absurd H (by simp)
       rw [if_pos c13] at H
       have cq : decide (0 ≤ (dl)) = true := decide_eq_true c13
       clear c13
       by_cases c14 : (dl) < (l0.length : Int)
       case neg => rw [if_neg c14] at H; exact absurd H (by simp)
       rw [if_pos c14] at H
       have ee : decide ((dl) < (l0.length : Int)) = true := decide_eq_true c14
       clear c14
       obtain ⟨ro, Cn, H⟩ := bd_ H
       (try dsimp only at H)
       have H' := Aside0.mk H
       clear H
       try go_wp2
       have n0_ : Aside0 ((((w7.setCell ⟨aT, 0, none⟩ (.int .i64 ((rd_T55 l0 ac).f0))).setCell ⟨aT, 1, none⟩ (.int .i64 ((rd_T55 l0 ac).f1))).setCell ⟨aT, 2, none⟩ (.int .i64 ((rd_T55 l0 ac).f2))).heap[aT]? = some (.cells #[.int .i64 ((rd_T55 l0 ac).f0), .int .i64 ((rd_T55 l0 ac).f1), .int .i64 ((rd_T55 l0 ac).f2)] 55 (0, 0))) := ⟨Z38⟩
       have n1_ : Aside0 (Below w.heap.size w (((w7.setCell ⟨aT, 0, none⟩ (.int .i64 ((rd_T55 l0 ac).f0))).setCell ⟨aT, 1, none⟩ (.int .i64 ((rd_T55 l0 ac).f1))).setCell ⟨aT, 2, none⟩ (.int .i64 ((rd_T55 l0 ac).f2)))) := ⟨Z19⟩
       (try clear az)
       (try clear HB)
       generalize (((w7.setCell ⟨aT, 0, none⟩ (.int .i64 ((rd_T55 l0 ac).f0))).setCell ⟨aT, 1, none⟩ (.int .i64 ((rd_T55 l0 ac).f1))).setCell ⟨aT, 2, none⟩ (.int .i64 ((rd_T55 l0 ac).f2))) = mx at n0_ n1_ ⊢
       have az := n0_
       have HB := n1_
       clear n0_ n1_
       refine k2_ (blk_drew az.out) (below_drew1 HB.out) ?_
       clear az HB
       intro az HB
       have vC : 0 ≤ ((dl) : Int) := of_decide_eq_true (Z8)
       have vD : (dl) < (l0.length : Int) := of_decide_eq_true (Z8)
       obtain ⟨ad344, e344, fF, fG, fH⟩ := at_T55 HR0.out (dl) vC vD
       have hw344_2 := fH
       have hw344_1 := fG
       have hw344_0 := fF
       obtain rfl : fy = ad344 := (by injection e344)
       replace fF := (HB.out.cell (World.block_lt_of_cell? w _ fF)).trans fF
       replace fG := (HB.out.cell (World.block_lt_of_cell? w _ fG)).trans fG
       replace fH := (HB.out.cell (World.block_lt_of_cell? w _ fH)).trans fH
       replace vC := eq_true vC
       replace vD := eq_true vD
       refine start_ (n := 17) (S := fun w' => w'.cell? ⟨aT, 0, none⟩ = some (.int .i64 ((rd_T55 l0 ac).f0)) ∧ w'.cell? ⟨aT, 1, none⟩ = some (.int .i64 ((rd_T55 l0 ac).f1)) ∧ w'.cell? ⟨aT, 2, none⟩ = some (.int .i64 ((rd_T55 l0 ac).f2)) ∧ w'.cell? (fy.add (((dl)).toNat * 3)) = some (.int .i64 ((rd_T55 l0 (dl)).f0)) ∧ w'.cell? ⟨(fy.add (((dl)).toNat * 3)).block, (fy.add (((dl)).toNat * 3)).off + 1, none⟩ = some (.int .i64 ((rd_T55 l0 (dl)).f1)) ∧ w'.cell? ⟨(fy.add (((dl)).toNat * 3)).block, (fy.add (((dl)).toNat * 3)).off + 2, none⟩ = some (.int .i64 ((rd_T55 l0 (dl)).f2))) (ds := []) (M_ 0 17) (by kernel_rfl) rfl rfl ⟨(blk_cell az.out 0).trans rfl, (blk_cell az.out 1).trans rfl, (blk_cell az.out 2).trans rfl, ((HB.out.cell (World.block_lt_of_cell? w _ hw344_0)).trans hw344_0), ((HB.out.cell (World.block_lt_of_cell? w _ hw344_1)).trans hw344_1), ((HB.out.cell (World.block_lt_of_cell? w _ hw344_2)).trans hw344_2)⟩ (fun hHeld => ?_); refine with_tabW impl_IsSheet.tab6 impl_IsSheet.bits6 (fun HT_ HW_ => ?_)
       generalize mx.drew = uY at az HB fF fG fH hHeld ⊢
       refine tk6_ 0 17 (M_ 1 16) hHeld ?_
       refine one_ (i := 1) (N := some 18) (M_ 2 15) rfl rfl (one_of HT_.out (by kernel_rfl)) (by decide) (fun K hK => ?_)
       refine goes_ Tryz.func54 (by kernel_rfl) rfl #[.agg #[.int .i64 ((rd_T55 l0 ac).f0), .int .i64 ((rd_T55 l0 ac).f1), .int .i64 ((rd_T55 l0 ac).f2)]] (by rfl) rfl rfl (Z46) ?_
       with_reducible refine (impl_IsHole.calls ((rd_T55 l0 ac).f0) ((rd_T55 l0 ac).f1) ((rd_T55 l0 ac).f2) true _ A9.out).mono ?_
       rintro e yy ⟨rfl, hb⟩
       refine ⟨_, rfl, ?_⟩
       have n0_ := Aside0.mk (Ye_ az)
       have n1_ := Aside0.mk (below_step (Z19) hb)
       clear az
       clear HB
       have az := n0_
       have HB := n1_
       clear n0_ n1_
       (try clear hb)
       refine hK.out _ _ ⟨(blk_cell az.out 0).trans rfl, (blk_cell az.out 1).trans rfl, (blk_cell az.out 2).trans rfl, ((HB.out.cell (World.block_lt_of_cell? w _ hw344_0)).trans hw344_0), ((HB.out.cell (World.block_lt_of_cell? w _ hw344_1)).trans hw344_1), ((HB.out.cell (World.block_lt_of_cell? w _ hw344_2)).trans hw344_2)⟩ (fun hHeld => ?_)
       clear hK K
       refine norm_ (a' := ?_) ?_ ?_
       rotate_left
       ·show Act.put _ (some 18) _ = _
        simp only [Act.put, List.setIfInBounds_toArray, List.set_cons_zero, List.set_cons_succ, i64_w, i32_w]
        rfl
       refine pu_ 2 19 (M_ 3 14) ?_
       refine pu_ 3 20 (M_ 4 13) ?_
       refine pu_ 4 21 (M_ 5 12) ?_
       refine pu_ 5 22 (M_ 6 11) ?_
       refine pu_ 6 23 (M_ 7 10) ?_
       refine pu_ 7 24 (M_ 8 9) ?_
       refine pu_ 8 25 (M_ 9 8) ?_
       refine pu_ 9 26 (M_ 10 7) ?_
       refine pu_ 10 27 (M_ 11 6) ?_
       refine tk6_ 11 28 (M_ 12 5) hHeld ?_
       refine tk6_ 12 29 (M_ 13 4) hHeld ?_
       refine one_ (i := 13) (N := some 30) (M_ 14 3) rfl rfl (one_of HT_.out (by kernel_rfl)) (by decide) (fun K hK => ?_)
       refine goes_ Tryz.func55 (by kernel_rfl) rfl #[.agg #[.int .i64 ((rd_T55 l0 (dl)).f0), .int .i64 ((rd_T55 l0 (dl)).f1), .int .i64 ((rd_T55 l0 (dl)).f2)], .agg #[.int .i64 ((rd_T55 l0 ac).f0), .int .i64 ((rd_T55 l0 ac).f1), .int .i64 ((rd_T55 l0 ac).f2)]] (by rfl) rfl rfl (by (try simp only [List.map_toArray, List.map_cons, List.map_nil]); first | done | (simp only [hji12]; rfl) | rfl | (simp only [List.length_drop, List.length_take]; rfl)) ?_
       with_reducible refine (impl_holeLess.calls ((rd_T55 l0 (dl)).f0) ((rd_T55 l0 (dl)).f1) ((rd_T55 l0 (dl)).f2) ((rd_T55 l0 ac).f0) ((rd_T55 l0 ac).f1) ((rd_T55 l0 ac).f2) ro _ Cn.out).mono ?_
       rintro e uk ⟨rfl, hb⟩
       refine ⟨_, rfl, ?_⟩
       have n0_ := Aside0.mk (Ye_ az)
       have n1_ := Aside0.mk (below_step (Z19) hb)
       clear az
       clear HB
       have az := n0_
       have HB := n1_
       clear n0_ n1_
       refine hK.out _ _ ⟨(blk_cell az.out 0).trans rfl, (blk_cell az.out 1).trans rfl, (blk_cell az.out 2).trans rfl, ((HB.out.cell (World.block_lt_of_cell? w _ hw344_0)).trans hw344_0), ((HB.out.cell (World.block_lt_of_cell? w _ hw344_1)).trans hw344_1), ((HB.out.cell (World.block_lt_of_cell? w _ hw344_2)).trans hw344_2)⟩ (fun hHeld => ?_)
       clear hK K
       refine norm_ (a' := ?_) ?_ ?_
       rotate_left
       ·show Act.put _ (some 30) _ = _
        simp only [Act.put, List.setIfInBounds_toArray, List.set_cons_zero, List.set_cons_succ, i64_w, i32_w]
        rfl
       refine pu_ 14 31 (M_ 15 2) ?_
       refine pu_ 15 32 (M_ 16 1) ?_
       refine pu_ 16 33 (M_ 17 0) ?_
       refine done_ (done_of HT_.out (by kernel_rfl)) ?_
       try go_wp2
       go_meet
       case rel => exact ⟨_, (!ro), (Z11), H', ⟨Z60 HK1⟩, ⟨Z7 az⟩, ⟨Z19⟩⟩
      rw [if_neg c11] at H
      have eM : decide (0 < ac) = false := decide_eq_false c11
      clear c11
      (first | rw [eM] | (simp only [i64_w, i32_w]; rw [eM]) | skip)
      have H' := Aside0.mk H
      clear H
      try go_wp2
      have n0_ : Aside0 ((((w7.setCell ⟨aT, 0, none⟩ (.int .i64 ((rd_T55 l0 ac).f0))).setCell ⟨aT, 1, none⟩ (.int .i64 ((rd_T55 l0 ac).f1))).setCell ⟨aT, 2, none⟩ (.int .i64 ((rd_T55 l0 ac).f2))).heap[aT]? = some (.cells #[.int .i64 ((rd_T55 l0 ac).f0), .int .i64 ((rd_T55 l0 ac).f1), .int .i64 ((rd_T55 l0 ac).f2)] 55 (0, 0))) := ⟨Z38⟩
      have n1_ : Aside0 (Below w.heap.size w (((w7.setCell ⟨aT, 0, none⟩ (.int .i64 ((rd_T55 l0 ac).f0))).setCell ⟨aT, 1, none⟩ (.int .i64 ((rd_T55 l0 ac).f1))).setCell ⟨aT, 2, none⟩ (.int .i64 ((rd_T55 l0 ac).f2)))) := ⟨Z19⟩
      (try clear az)
      (try clear HB)
      generalize (((w7.setCell ⟨aT, 0, none⟩ (.int .i64 ((rd_T55 l0 ac).f0))).setCell ⟨aT, 1, none⟩ (.int .i64 ((rd_T55 l0 ac).f1))).setCell ⟨aT, 2, none⟩ (.int .i64 ((rd_T55 l0 ac).f2))) = yC at n0_ n1_ ⊢
      have az := n0_
      have HB := n1_
      clear n0_ n1_
      refine k2_ (blk_drew az.out) (below_drew1 HB.out) ?_
      clear az HB
      intro az HB
      refine start_ (n := 17) (S := fun w' => w'.cell? ⟨aT, 0, none⟩ = some (.int .i64 ((rd_T55 l0 ac).f0)) ∧ w'.cell? ⟨aT, 1, none⟩ = some (.int .i64 ((rd_T55 l0 ac).f1)) ∧ w'.cell? ⟨aT, 2, none⟩ = some (.int .i64 ((rd_T55 l0 ac).f2))) (ds := []) (M_ 0 17) (by kernel_rfl) rfl rfl ⟨(blk_cell az.out 0).trans rfl, (blk_cell az.out 1).trans rfl, (blk_cell az.out 2).trans rfl⟩ (fun hHeld => ?_); refine with_tabW impl_IsSheet.tab6 impl_IsSheet.bits6 (fun HT_ HW_ => ?_)
      generalize yC.drew = vP at az HB hHeld ⊢
      refine tk3_ 0 17 (M_ 1 16) hHeld ?_
      refine one_ (i := 1) (N := some 18) (M_ 2 15) rfl rfl (one_of HT_.out (by kernel_rfl)) (by decide) (fun K hK => ?_)
      refine goes_ Tryz.func54 (by kernel_rfl) rfl #[.agg #[.int .i64 ((rd_T55 l0 ac).f0), .int .i64 ((rd_T55 l0 ac).f1), .int .i64 ((rd_T55 l0 ac).f2)]] (by rfl) rfl rfl (Z46) ?_
      with_reducible refine (impl_IsHole.calls ((rd_T55 l0 ac).f0) ((rd_T55 l0 ac).f1) ((rd_T55 l0 ac).f2) true _ A9.out).mono ?_
      rintro e xX ⟨rfl, hb⟩
      refine ⟨_, rfl, ?_⟩
      have n0_ := Aside0.mk (Ye_ az)
      have n1_ := Aside0.mk (below_step (Z19) hb)
      clear az
      clear HB
      have az := n0_
      have HB := n1_
      clear n0_ n1_
      (try clear hb)
      refine hK.out _ _ ⟨(blk_cell az.out 0).trans rfl, (blk_cell az.out 1).trans rfl, (blk_cell az.out 2).trans rfl⟩ (fun hHeld => ?_)
      clear hK K
      refine norm_ (a' := ?_) ?_ ?_
      rotate_left
      ·show Act.put _ (some 18) _ = _
       simp only [Act.put, List.setIfInBounds_toArray, List.set_cons_zero, List.set_cons_succ, i64_w, i32_w]
       rfl
      refine pu_ 2 19 (M_ 3 14) ?_
      refine pu_ 3 20 (M_ 4 13) ?_
      refine pu_ 4 21 (M_ 5 12) ?_
      refine pu_ 5 22 (M_ 6 11) ?_
      refine pu_ 6 23 (M_ 7 10) ?_
      refine pn_ 7 24 (M_ 8 9) ?_
      refine pn_ 8 25 (M_ 9 8) ?_
      refine pn_ 9 26 (M_ 10 7) ?_
      refine pn_ 10 27 (M_ 11 6) ?_
      refine pn_ 11 28 (M_ 12 5) ?_
      refine pn_ 12 29 (M_ 13 4) ?_
      refine pn_ 13 30 (M_ 14 3) ?_
      refine pn_ 14 31 (M_ 15 2) ?_
      refine pu_ 15 32 (M_ 16 1) ?_
      refine pu_ 16 33 (M_ 17 0) ?_
      refine done_ (done_of HT_.out (by kernel_rfl)) ?_
      try go_wp2
      go_meet
      case rel => exact ⟨_, (false), (Z11), H', ⟨Z60 HK1⟩, ⟨Z7 az⟩, ⟨Z19⟩⟩
     replace c10 := Bool.eq_false_iff.mpr c10
     subst c10
     rw [if_neg (show ¬ (false = true) by decide)] at H
     have H' := Aside0.mk H
     clear H
     try go_wp2
     have n0_ : Aside0 ((((w7.setCell ⟨aT, 0, none⟩ (.int .i64 ((rd_T55 l0 ac).f0))).setCell ⟨aT, 1, none⟩ (.int .i64 ((rd_T55 l0 ac).f1))).setCell ⟨aT, 2, none⟩ (.int .i64 ((rd_T55 l0 ac).f2))).heap[aT]? = some (.cells #[.int .i64 ((rd_T55 l0 ac).f0), .int .i64 ((rd_T55 l0 ac).f1), .int .i64 ((rd_T55 l0 ac).f2)] 55 (0, 0))) := ⟨Z38⟩
     have n1_ : Aside0 (Below w.heap.size w (((w7.setCell ⟨aT, 0, none⟩ (.int .i64 ((rd_T55 l0 ac).f0))).setCell ⟨aT, 1, none⟩ (.int .i64 ((rd_T55 l0 ac).f1))).setCell ⟨aT, 2, none⟩ (.int .i64 ((rd_T55 l0 ac).f2)))) := ⟨Z19⟩
     (try clear az)
     (try clear HB)
     generalize (((w7.setCell ⟨aT, 0, none⟩ (.int .i64 ((rd_T55 l0 ac).f0))).setCell ⟨aT, 1, none⟩ (.int .i64 ((rd_T55 l0 ac).f1))).setCell ⟨aT, 2, none⟩ (.int .i64 ((rd_T55 l0 ac).f2))) = mm at n0_ n1_ ⊢
     have az := n0_
     have HB := n1_
     clear n0_ n1_
     refine k2_ (blk_drew az.out) (below_drew1 HB.out) ?_
     clear az HB
     intro az HB
     refine start_ (n := 17) (S := fun w' => w'.cell? ⟨aT, 0, none⟩ = some (.int .i64 ((rd_T55 l0 ac).f0)) ∧ w'.cell? ⟨aT, 1, none⟩ = some (.int .i64 ((rd_T55 l0 ac).f1)) ∧ w'.cell? ⟨aT, 2, none⟩ = some (.int .i64 ((rd_T55 l0 ac).f2))) (ds := []) (M_ 0 17) (by kernel_rfl) rfl rfl ⟨(blk_cell az.out 0).trans rfl, (blk_cell az.out 1).trans rfl, (blk_cell az.out 2).trans rfl⟩ (fun hHeld => ?_); refine with_tabW impl_IsSheet.tab6 impl_IsSheet.bits6 (fun HT_ HW_ => ?_)
     generalize mm.drew = mn at az HB hHeld ⊢
     refine tk3_ 0 17 (M_ 1 16) hHeld ?_
     refine one_ (i := 1) (N := some 18) (M_ 2 15) rfl rfl (one_of HT_.out (by kernel_rfl)) (by decide) (fun K hK => ?_)
     refine goes_ Tryz.func54 (by kernel_rfl) rfl #[.agg #[.int .i64 ((rd_T55 l0 ac).f0), .int .i64 ((rd_T55 l0 ac).f1), .int .i64 ((rd_T55 l0 ac).f2)]] (by rfl) rfl rfl (Z46) ?_
     with_reducible refine (impl_IsHole.calls ((rd_T55 l0 ac).f0) ((rd_T55 l0 ac).f1) ((rd_T55 l0 ac).f2) false _ A9.out).mono ?_
     rintro e Cp ⟨rfl, hb⟩
     refine ⟨_, rfl, ?_⟩
     have n0_ := Aside0.mk (Ye_ az)
     have n1_ := Aside0.mk (below_step (Z19) hb)
     clear az
     clear HB
     have az := n0_
     have HB := n1_
     clear n0_ n1_
     (try clear hb)
     refine hK.out _ _ ⟨(blk_cell az.out 0).trans rfl, (blk_cell az.out 1).trans rfl, (blk_cell az.out 2).trans rfl⟩ (fun hHeld => ?_)
     clear hK K
     refine norm_ (a' := ?_) ?_ ?_
     rotate_left
     ·show Act.put _ (some 18) _ = _
      simp only [Act.put, List.setIfInBounds_toArray, List.set_cons_zero, List.set_cons_succ, i64_w, i32_w]
      rfl
     refine pu_ 2 19 (M_ 3 14) ?_
     refine pu_ 3 20 (M_ 4 13) ?_
     refine pn_ 4 21 (M_ 5 12) ?_
     refine pn_ 5 22 (M_ 6 11) ?_
     refine pn_ 6 23 (M_ 7 10) ?_
     refine pn_ 7 24 (M_ 8 9) ?_
     refine pn_ 8 25 (M_ 9 8) ?_
     refine pn_ 9 26 (M_ 10 7) ?_
     refine pn_ 10 27 (M_ 11 6) ?_
     refine pn_ 11 28 (M_ 12 5) ?_
     refine pn_ 12 29 (M_ 13 4) ?_
     refine pn_ 13 30 (M_ 14 3) ?_
     refine pn_ 14 31 (M_ 15 2) ?_
     refine pn_ 15 32 (M_ 16 1) ?_
     refine pu_ 16 33 (M_ 17 0) ?_
     refine done_ (done_of HT_.out (by kernel_rfl)) ?_
     try go_wp2
     go_meet
     case rel => exact ⟨_, (true), (Z11), H', ⟨Z60 HK1⟩, ⟨Z7 az⟩, ⟨Z19⟩⟩
    case rest =>
     clear HC6
     (try clear c3); (try clear bA); (try clear c4); (try clear bZ); (try clear c5); (try clear ci); (try clear gQ); (try clear i7); (try clear i8); (try clear jd); (try clear i9); (try clear ja); (try clear iH); (try clear iI); (try clear iJ); (try clear vA); (try clear vB)
     obtain ⟨kq, qp, rfl, HA, oK, az, HB⟩ := hcut
     cases kq with
     | zero => exact absurd HA.out (by simp [impl_IsSheet.j1])
     | succ oO =>
      have H := HA.out
      clear HA
      simp only [impl_IsSheet.j1] at H
      by_cases c26 : qp = true
      ·subst c26
       rw [if_pos rfl] at H
       obtain rfl := Option.some.inj H
       go_wp2
       go_ret
       exact ⟨Z9, Z19⟩
      replace c26 := Bool.eq_false_iff.mpr c26
      subst c26
      rw [if_neg (show ¬ (false = true) by decide)] at H
      by_cases c27 : 0 ≤ ac
      case neg => rw [if_neg c27] at H; exact absurd H (by simp)
      rw [if_pos c27] at H
      have lm := eq_true c27
      have ln : decide (0 ≤ ac) = true := decide_eq_true c27
      clear c27
      by_cases c28 : ac ≤ (l0.length : Int)
      case neg => rw [if_neg c28] at H; exact absurd H (by simp)
      rw [if_pos c28] at H
      have la := eq_true c28
      have rU : decide (ac ≤ (l0.length : Int)) = true := decide_eq_true c28
      clear c28
      obtain ⟨dz, ol⟩ : ∃ y_ : List (S55), y_ = (l0.take (ac : Int).toNat) := ⟨_, rfl⟩
      replace H : (impl_IsSheet.l1 oO l0 l0 (l0.length : Int) ac dz (dz.length : Int) 0 ((rd_T55 l0 ac).f0) ((rd_T55 l0 ac).f1) ((rd_T55 l0 ac).f2)) = some r := by first | (rw [ol]; with_reducible exact H) | (have H2_ := (Option.bind_some _ _).symm.trans H; rw [ol]; with_reducible exact H2_) | (have H2_ := (Option.bind_some _ _).symm.trans H; with_reducible exact H2_) | with_reducible exact H | (rw [ol]; exact H) | exact H
      have xJ := Aside0.mk ol
      clear ol
      have H' := Aside0.mk H
      clear H
      have Cg : (ac : Int) ≤ ((l0.length : Int) : Int) := of_decide_eq_true (Z8)
      obtain ⟨i029, hi029, _, hsz29, _⟩ := info_parts info55
      have hroom29 : l0.length ≤ c0 := HC0.out
      have hC29 : Kd.C k55 _ (some fy) l0.length l0 := HR0.out
      have hcut29 := cut_to (P := Tryz.prog) 24 55 .i64 Tryz.underlying24 hi029 (some fy) l0.length c0 ac (of_decide_eq_true (Z8)) Cg hroom29
      have hr29 := Kd.C_take (m := (ac : Int).toNat) hC29 (by omega)
      have zI : dz.length = (ac : Int).toNat := (Z118 xJ)
      rw [← xJ.out] at hr29
      rw [← zI] at hcut29
      have HR349 := Aside0.mk hr29
      have HC349 := Aside0.mk (show dz.length ≤ c0 from by omega)
      clear hr29 hC29 hroom29 hi029 hsz29
      have KY29 := Aside0.mk zI
      clear zI
      replace Cg := eq_true Cg
      go_wp2
      go_loopg [38] oO (fun kq v38 w' => ∃ (bS : Int), v38 = .int .i64 bS ∧ Aside0 (impl_IsSheet.l1 kq l0 l0 (l0.length : Int) ac dz (dz.length : Int) bS ((rd_T55 l0 ac).f0) ((rd_T55 l0 ac).f1) ((rd_T55 l0 ac).f2) = some r) ∧ Aside0 (kq ≤ oO) ∧ Aside0 (w'.heap[aT]? = some (.cells #[.int .i64 ((rd_T55 l0 ac).f0), .int .i64 ((rd_T55 l0 ac).f1), .int .i64 ((rd_T55 l0 ac).f2)] 55 (0, 0))) ∧ Aside0 (Below w.heap.size w w'))
      case atStart => exact ⟨(0), (Z11), H', ⟨Nat.le_refl _⟩, ⟨Z7 az⟩, ⟨Z19⟩⟩
      case round =>
       clear H'
       (try clear c26); (try clear c27); (try clear lm); (try clear ln); (try clear c28); (try clear la); (try clear rU); (try clear Cg)
       obtain ⟨bS, rfl, HA, HK3, az, HB⟩ := hrel
       cases gk with
       | zero => exact absurd HA.out (by simp [impl_IsSheet.l1])
       | succ k3 =>
        have H := HA.out
        clear HA
        simp only [impl_IsSheet.l1] at H
        by_cases c30 : bS < (dz.length : Int)
        ·rw [if_pos c30] at H
         have pO : decide (bS < (dz.length : Int)) = true := decide_eq_true c30
         clear c30
         by_cases c31 : 0 ≤ bS
         case neg => rw [if_neg c31] at H; exact absurd H (by simp)
         rw [if_pos c31] at H
         have lb : decide (0 ≤ bS) = true := decide_eq_true c31
         clear c31
         by_cases c32 : bS < (dz.length : Int)
         case neg => rw [if_neg c32] at H; exact absurd H (by simp)
         rw [if_pos c32] at H
         have m9 : decide (bS < (dz.length : Int)) = true := decide_eq_true c32
         clear c32
         by_cases c33 : ((rd_T55 dz bS).f0) = ((rd_T55 l0 ac).f0)
         ·rw [if_pos c33] at H
          have iO : (((rd_T55 dz bS).f0) == ((rd_T55 l0 ac).f0)) = true := beq_iff_eq.mpr c33
          have vQ : (((rd_T55 dz bS).f0) != ((rd_T55 l0 ac).f0)) = false := bne_eq_false_iff_eq.mpr c33
          clear c33
          by_cases c34 : ((rd_T55 dz bS).f2) ≥ ((rd_T55 l0 ac).f1)
          ·rw [if_pos c34] at H
           have vR : decide (((rd_T55 l0 ac).f1) ≤ ((rd_T55 dz bS).f2)) = true := decide_eq_true c34
           clear c34
           obtain rfl := Option.some.inj H
           have jH : 0 ≤ (bS : Int) := of_decide_eq_true (Z8)
           have jI : bS < (dz.length : Int) := of_decide_eq_true (Z8)
           obtain ⟨om, e350, cS, cT, cU⟩ := at_T55 HR349.out bS jH jI
           obtain rfl : fy = om := (by injection e350)
           replace cS := (HB.out.cell (World.block_lt_of_cell? w _ cS)).trans cS
           replace cT := (HB.out.cell (World.block_lt_of_cell? w _ cT)).trans cT
           replace cU := (HB.out.cell (World.block_lt_of_cell? w _ cU)).trans cU
           replace jH := eq_true jH
           replace jI := eq_true jI
           go_wp2_with ((with_reducible refine gate_dst (N := 6) rfl ?_); refine bv_ 6 55 #[.int .i64 0, .int .i64 0, .int .i64 0] ?_; intro d7 hg Cf hbox hb; refine k7_ (Ye_ az) (below_step (Z19) hb) (hbox) ((Z112 : w.heap.size ≤ d7)) ((Z112 : w.heap.size ≤ d7)) ((Z77 : aT ≠ d7)) ((Z78 : d7 ≠ aT)) ?_; clear az HB; intro az HB oo xK rE cB en; clear hb hbox hg; have hnb36 := en.out; have hnc36 := cB.out; obtain ⟨hcz37_0, hcz37_1, hcz37_2, hfz37_0, hfz37_1, hfz37_2⟩ := bx3_ (w := Cf) oo.out; obtain ⟨hcz38_0, hcz38_1, hcz38_2, hfz38_0, hfz38_1, hfz38_2⟩ := bx3_ (w := Cf) az.out)
           go_ret
           exact ⟨Z9, Z76⟩
          rw [if_neg c34] at H
          have vR : decide (((rd_T55 l0 ac).f1) ≤ ((rd_T55 dz bS).f2)) = false := decide_eq_false c34
          clear c34
          have H' := Aside0.mk H
          clear H
          have jH : 0 ≤ (bS : Int) := of_decide_eq_true (Z8)
          have jI : bS < (dz.length : Int) := of_decide_eq_true (Z8)
          obtain ⟨om, e350, cS, cT, cU⟩ := at_T55 HR349.out bS jH jI
          obtain rfl : fy = om := (by injection e350)
          replace cS := (HB.out.cell (World.block_lt_of_cell? w _ cS)).trans cS
          replace cT := (HB.out.cell (World.block_lt_of_cell? w _ cT)).trans cT
          replace cU := (HB.out.cell (World.block_lt_of_cell? w _ cU)).trans cU
          replace jH := eq_true jH
          replace jI := eq_true jI
          go_wp2_with ((with_reducible refine gate_dst (N := 6) rfl ?_); refine bv_ 6 55 #[.int .i64 0, .int .i64 0, .int .i64 0] ?_; intro d7 hg CX hbox hb; refine k7_ (Ye_ az) (below_step (Z19) hb) (hbox) ((Z112 : w.heap.size ≤ d7)) ((Z112 : w.heap.size ≤ d7)) ((Z77 : aT ≠ d7)) ((Z78 : d7 ≠ aT)) ?_; clear az HB; intro az HB oo xK rE cB en; clear hb hbox hg; have hnb40 := en.out; have hnc40 := cB.out; obtain ⟨hcz41_0, hcz41_1, hcz41_2, hfz41_0, hfz41_1, hfz41_2⟩ := bx3_ (w := CX) oo.out; obtain ⟨hcz42_0, hcz42_1, hcz42_2, hfz42_0, hfz42_1, hfz42_2⟩ := bx3_ (w := CX) az.out)
          go_roundg k3
          case measure => have := HK1.out; have := oK.out; have := HK3.out; omega
          case rel => exact ⟨(wrap64 (bS + 1)), (Z11), H', ⟨Z125⟩, ⟨Z63⟩, ⟨Z76⟩⟩
         rw [if_neg c33] at H
         have iO : (((rd_T55 dz bS).f0) == ((rd_T55 l0 ac).f0)) = false := beq_eq_false_iff_ne.mpr c33
         have vQ : (((rd_T55 dz bS).f0) != ((rd_T55 l0 ac).f0)) = true := bne_iff_ne.mpr c33
         have H' := Aside0.mk H
         clear H
         have jH : 0 ≤ (bS : Int) := of_decide_eq_true (Z8)
         have jI : bS < (dz.length : Int) := of_decide_eq_true (Z8)
         obtain ⟨om, e350, cS, cT, cU⟩ := at_T55 HR349.out bS jH jI
         obtain rfl : fy = om := (by injection e350)
         replace cS := (HB.out.cell (World.block_lt_of_cell? w _ cS)).trans cS
         replace cT := (HB.out.cell (World.block_lt_of_cell? w _ cT)).trans cT
         replace cU := (HB.out.cell (World.block_lt_of_cell? w _ cU)).trans cU
         replace jH := eq_true jH
         replace jI := eq_true jI
         go_wp2_with ((with_reducible refine gate_dst (N := 6) rfl ?_); refine bv_ 6 55 #[.int .i64 0, .int .i64 0, .int .i64 0] ?_; intro d7 hg Dd hbox hb; refine k7_ (Ye_ az) (below_step (Z19) hb) (hbox) ((Z112 : w.heap.size ≤ d7)) ((Z112 : w.heap.size ≤ d7)) ((Z77 : aT ≠ d7)) ((Z78 : d7 ≠ aT)) ?_; clear az HB; intro az HB oo xK rE cB en; clear hb hbox hg; have hnb44 := en.out; have hnc44 := cB.out; obtain ⟨hcz45_0, hcz45_1, hcz45_2, hfz45_0, hfz45_1, hfz45_2⟩ := bx3_ (w := Dd) oo.out; obtain ⟨hcz46_0, hcz46_1, hcz46_2, hfz46_0, hfz46_1, hfz46_2⟩ := bx3_ (w := Dd) az.out)
         go_roundg k3
         case measure => have := HK1.out; have := oK.out; have := HK3.out; omega
         case rel => exact ⟨(wrap64 (bS + 1)), (Z11), H', ⟨Z125⟩, ⟨Z63⟩, ⟨Z76⟩⟩
        rw [if_neg c30] at H
        have pO : decide (bS < (dz.length : Int)) = false := decide_eq_false c30
        clear c30
        have H' := Aside0.mk H
        clear H
        go_wp2
        go_roundg k3
        case measure => have := HK1.out; have := oK.out; have := HK3.out; omega
        case rel => exact ⟨(wrap64 (ac + 1)), (Z11), H', ⟨Z125⟩, ⟨Z19⟩⟩
   rw [if_neg c3] at H
   have bA : decide (ac < (l0.length : Int)) = false := decide_eq_false c3
   clear c3
   obtain rfl := Option.some.inj H
   go_wp2
   go_ret
   exact ⟨Z9, Z2⟩

end Go.Proofs.YtcpbncljimmkfaaGreatDoor.PFnScans
