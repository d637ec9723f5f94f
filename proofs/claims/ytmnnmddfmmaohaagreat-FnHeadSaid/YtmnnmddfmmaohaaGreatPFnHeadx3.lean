-- written by a program of this session: the kit's print, with outer functions of the session's own (wip/ext)
import Derived.Test.YtmnnmddfmmaohaaGreatPFnHeadx0
import Derived.Test.YtmnnmddfmmaohaaGreatPFnHeadx2
namespace Go.Proofs.YtmnnmddfmmaohaaGreat.PFnHead
open Go.RowKit Go.Proofs.YtmnnmddfmmaohaaGreatW.PrintWords Go.Proofs.YtmnnmddfmmaohaaGreatW.PrintLast Go.Proofs.YtmnnmddfmmaohaaGreatW.PrintMore
attribute [local go_sem] max2_int min2_int max_two min_two max_three min_three max_four min_four   -- for this text's walks alone
set_option linter.unusedVariables false
set_option linter.unusedSimpArgs false
theorem mo3_ {p : Prop} (h : p := by repeat' first | (with_reducible first | apply ih0 | apply ih0 | apply ih1 | apply ih1 | apply ih2 | apply ih2 | exact LeO.refl _ | exact LeO.none _ | refine LeO.ite ?_ ?_ | refine LeO.bind ?_ (fun _ => ?_)) | exact LeO.none _ | refine LeO.ite ?_ ?_ | refine LeO.bind ?_ (fun _ => ?_)) : p := h

/-! ### spec_shGood: function 83 -/
mutual
def spec_shGood.l0 : Nat → List (S76) → List (S76) → Int → Int → Option (Bool)
 | 0, _, _, _, _ => none
 | k + 1, x0, x7, x8, x9 => if x9 < x8 then (if 0 ≤ x9 then (if x9 < (x7.length : Int) then ((spec_shHole.f ((rd_T76 x7 x9).f0) ((rd_T76 x7 x9).f1) ((rd_T76 x7 x9).f2)).bind fun zy => (if zy = true then (if x9 > 0 then (if 0 ≤ (wrap64 (x9 - 1)) then (if (wrap64 (x9 - 1)) < (x0.length : Int) then ((spec_shBefore.f ((rd_T76 x0 (wrap64 (x9 - 1))).f0) ((rd_T76 x0 (wrap64 (x9 - 1))).f1) ((rd_T76 x0 (wrap64 (x9 - 1))).f2) ((rd_T76 x7 x9).f0) ((rd_T76 x7 x9).f1) ((rd_T76 x7 x9).f2)).bind fun r6 => (spec_shGood.j1 k x0 x9 x7 x8 x9 (!r6) ((rd_T76 x7 x9).f0) ((rd_T76 x7 x9).f1) ((rd_T76 x7 x9).f2))) else (none)) else (none)) else (spec_shGood.j1 k x0 x9 x7 x8 x9 false ((rd_T76 x7 x9).f0) ((rd_T76 x7 x9).f1) ((rd_T76 x7 x9).f2))) else (spec_shGood.j1 k x0 x9 x7 x8 x9 true ((rd_T76 x7 x9).f0) ((rd_T76 x7 x9).f1) ((rd_T76 x7 x9).f2)))) else (none)) else (none)) else (some (decide ((x0.length : Int) ≤ 60)))
def spec_shGood.j1 : Nat → List (S76) → Int → List (S76) → Int → Int → Bool → Int → Int → Int → Option (Bool)
 | 0, _, _, _, _, _, _, _, _, _ => none
 | k + 1, x0, x3, x7, x8, x9, x30, hU, hV, ji => if x30 = true then (some false) else (if 0 ≤ x3 then (if x3 ≤ (x0.length : Int) then ((some (x0.take (x3 : Int).toNat : List (S76))).bind fun d3 => (spec_shGood.l1 k x0 x7 x8 x9 d3 (d3.length : Int) 0 hU hV ji)) else (none)) else (none))
def spec_shGood.l1 : Nat → List (S76) → List (S76) → Int → Int → List (S76) → Int → Int → Int → Int → Int → Option (Bool)
 | 0, _, _, _, _, _, _, _, _, _, _ => none
 | k + 1, x0, x7, x8, x9, x33, x34, x35, hU, hV, ji => if x35 < x34 then (if 0 ≤ x35 then (if x35 < (x33.length : Int) then (if hU = ((rd_T76 x33 x35).f0) then (if ((rd_T76 x33 x35).f2) ≥ hV then (some false) else (spec_shGood.l1 k x0 x7 x8 x9 x33 x34 (wrap64 (x35 + 1)) hU hV ji)) else (spec_shGood.l1 k x0 x7 x8 x9 x33 x34 (wrap64 (x35 + 1)) hU hV ji)) else (none)) else (none)) else (spec_shGood.l0 k x0 x7 x8 (wrap64 (x9 + 1)))
end
def spec_shGood.f (k : Nat) (l0 : List (S76)) : Option (Bool) := spec_shGood.l0 k l0 l0 (l0.length : Int) 0
theorem spec_shGood.mono_l : ∀ k, (∀ y0 y1 y2 y3, LeO (spec_shGood.l0 k y0 y1 y2 y3) (spec_shGood.l0 (k + 1) y0 y1 y2 y3)) ∧ (∀ y0 y1 y2 y3 y4 y5 y6 y7 y8, LeO (spec_shGood.j1 k y0 y1 y2 y3 y4 y5 y6 y7 y8) (spec_shGood.j1 (k + 1) y0 y1 y2 y3 y4 y5 y6 y7 y8)) ∧ (∀ y0 y1 y2 y3 y4 y5 y6 y7 y8 y9, LeO (spec_shGood.l1 k y0 y1 y2 y3 y4 y5 y6 y7 y8 y9) (spec_shGood.l1 (k + 1) y0 y1 y2 y3 y4 y5 y6 y7 y8 y9))
 | 0 => ⟨fun _ _ _ _ r h => by simp [spec_shGood.l0] at h, fun _ _ _ _ _ _ _ _ _ r h => by simp [spec_shGood.j1] at h, fun _ _ _ _ _ _ _ _ _ _ r h => by simp [spec_shGood.l1] at h⟩
 | k + 1 => by
  obtain ⟨ih0, ih1, ih2⟩ := spec_shGood.mono_l k
  refine ⟨?_, ?_, ?_⟩
  ·intro y0 y1 y2 y3
   unfold spec_shGood.l0
   exact mo3_
  ·intro y0 y1 y2 y3 y4 y5 y6 y7 y8
   unfold spec_shGood.j1
   exact mo3_
  intro y0 y1 y2 y3 y4 y5 y6 y7 y8 y9
  unfold spec_shGood.l1
  exact mo3_
theorem spec_shGood.mono : ∀ a0 k, LeO (spec_shGood.f k a0) (spec_shGood.f (k + 1) a0) := by
 intro a0 k
 obtain ⟨ih0, ih1, ih2⟩ := spec_shGood.mono_l k
 unfold spec_shGood.f
 exact mo3_
def spec_shGood.T4 : Bool × List (List Nat × List Nat) := (true, [([], []), ([0], [0]), ([1], [1]), ([2, 1], [2]), ([3], [3]), ([4, 3], [3, 4]), ([5, 3, 3], [3, 5]), ([6], [6]), ([6], [6]), ([8, 6], [6, 8]), ([7, 9, 6], [6, 7, 9]), ([10, 6], [6, 10]), ([6], [6]), ([11, 12, 6, 6], [6, 11, 12]), ([13, 6], [6, 13]), ([6, 14, 3], [3, 6, 14]), ([3, 15], [3, 15])])
def spec_shGood.B4 : List Nat := [0, 1, 3, 7, 15, 31, 63, 127, 127, 383, 1023, 2047, 127, 8191, 16383, 32767, 65535]
theorem spec_shGood.tab4 : rtab .any (opsOf Tryz.f83 4) = spec_shGood.T4 := by kernel_rfl
theorem spec_shGood.bits4 : waitsOk spec_shGood.T4.2 spec_shGood.B4 = true := by kernel_rfl
set_option maxHeartbeats 8000000 in
set_option maxRecDepth 100000 in
theorem spec_shGood.calls (k : Nat) (A0 : Option Addr) (c0 : Nat) (l0 : List (S76)) (r : Bool) (w : World) (hr0 : Kd.C k76 w A0 l0.length l0) (hc0 : l0.length ≤ c0) (h : spec_shGood.f k l0 = some r) :
  Calls Tryz.prog 83 #[.slice A0 l0.length c0] w fun e w' => e = .returned (.bool r) ∧ Below w.heap.size w w' := by
 have hu76 := Tryz.underlying76
 have HR0 := Aside0.mk hr0
 have HC0 := Aside0.mk hc0
 clear hr0 hc0
 have HB := Aside0.mk (Below.refl w.heap.size w)
 have H : (spec_shGood.l0 k l0 l0 (l0.length : Int) 0) = some r := h
 clear h
 have H' := Aside0.mk H
 clear H
 go_enter Tryz.func83, Tryz.ntmps83
 go_wp2
 go_loopg [9] k (fun kq v9 w' => ∃ (aA : Int), v9 = .int .i64 aA ∧ Aside0 (spec_shGood.l0 kq l0 l0 (l0.length : Int) aA = some r) ∧ Aside0 (kq ≤ k) ∧ Aside0 (Below w.heap.size w w'))
 case atStart => exact ⟨(0), (Z16), H', ⟨Nat.le_refl _⟩, ⟨Z2⟩⟩
 case round =>
  clear H'
  obtain ⟨aA, rfl, HA, HK1, HB⟩ := hrel
  cases gk with
  | zero => exact absurd HA.out (by simp [spec_shGood.l0])
  | succ k1 =>
   have H := HA.out
   clear HA
   simp only [spec_shGood.l0] at H
   by_cases c2 : aA < (l0.length : Int)
   ·rw [if_pos c2] at H
    have fi : decide (aA < (l0.length : Int)) = true := decide_eq_true c2
    clear c2
    by_cases c3 : 0 ≤ aA
    ·rw [if_pos c3] at H
     have dj : decide (0 ≤ aA) = true := decide_eq_true c3
     clear c3
     by_cases c4 : aA < (l0.length : Int)
     ·rw [if_pos c4] at H
      have fj : decide (aA < (l0.length : Int)) = true := decide_eq_true c4
      clear c4
      have HC5 := Aside0.mk H
      clear H
      have vV : 0 ≤ (aA : Int) := of_decide_eq_true (Z4)
      have vW : aA < (l0.length : Int) := of_decide_eq_true (Z4)
      obtain ⟨f8, e133, jj, jk, jl⟩ := at_T76 HR0.out aA vV vW
      cases e133
      replace jj := (HB.out.cell (World.block_lt_of_cell? w _ jj)).trans jj
      replace jk := (HB.out.cell (World.block_lt_of_cell? w _ jk)).trans jk
      replace jl := (HB.out.cell (World.block_lt_of_cell? w _ jl)).trans jl
      replace vV := eq_true vV
      replace vW := eq_true vW
      go_upto_region 4 with (first | ((with_reducible refine gate_dst (N := 4) rfl ?_); refine bv_ 4 76 #[.int .i64 0, .int .i64 0, .int .i64 0] ?_; intro bd hg w6 hbox hb; refine k4_ (below_step (Z2) hb) (hbox) ((Z38 : w.heap.size ≤ bd)) ((Z38 : w.heap.size ≤ bd)) ?_; clear HB; intro HB aG GW134 wE; clear hb hbox hg; obtain ⟨uq, ur, us, ut, uu, uv⟩ := bx3_ (w := w6) aG.out))
      (try simp only [Act.put, List.setIfInBounds_toArray, List.set_cons_zero, List.set_cons_succ])
      go_cut [30] (fun DH wc => ∃ (kq : Nat) (cN : Bool), DH = .bool cN ∧ Aside0 (spec_shGood.j1 kq l0 aA l0 (l0.length : Int) aA cN ((rd_T76 l0 aA).f0) ((rd_T76 l0 aA).f1) ((rd_T76 l0 aA).f2) = some r) ∧ Aside0 (kq ≤ k1) ∧ Aside0 (wc.heap[bd]? = some (.cells #[.int .i64 ((rd_T76 l0 aA).f0), .int .i64 ((rd_T76 l0 aA).f1), .int .i64 ((rd_T76 l0 aA).f2)] 76 (0, 0))) ∧ Aside0 (Below w.heap.size w wc))
      case first =>
       have H := HC5.out
       clear HC5
       replace H := Option.bind_eq_some_iff.mp H
       obtain ⟨zy, m7, H⟩ := H
       (try dsimp only at H)
       have A8 := Aside0.mk m7
       clear m7
       by_cases c9 : zy = true
       ·subst c9
        rw [if_pos rfl] at H
        by_cases c10 : aA > 0
        ·rw [if_pos c10] at H
         have cg : decide (0 < aA) = true := decide_eq_true c10
         clear c10
         (first | rw [cg] | (simp only [i64_w, i32_w]; rw [cg]) | skip)
         obtain ⟨du, hji11⟩ : ∃ j_ : Int, (wrap64 (aA - 1)) = j_ := ⟨_, rfl⟩
         replace H : (if 0 ≤ (du) then (if (du) < (l0.length : Int) then ((spec_shBefore.f ((rd_T76 l0 (du)).f0) ((rd_T76 l0 (du)).f1) ((rd_T76 l0 (du)).f2) ((rd_T76 l0 aA).f0) ((rd_T76 l0 aA).f1) ((rd_T76 l0 aA).f2)).bind fun r6 => (spec_shGood.j1 k1 l0 aA l0 (l0.length : Int) aA (!r6) ((rd_T76 l0 aA).f0) ((rd_T76 l0 aA).f1) ((rd_T76 l0 aA).f2))) else (none)) else (none)) = some r := by first | (rw [hji11] at H; exact H) | (simp only [hji11] at H ⊢; exact H)
         (try rw [hji11] at A8)
         have hji11w : (IntKind.i64.wrap (aA - 1)) = du := (i64_w _).trans hji11
         by_cases c12 : 0 ≤ (du)
         ·rw [if_pos c12] at H
          have iE : decide (0 ≤ (du)) = true := decide_eq_true c12
          clear c12
          by_cases c13 : (du) < (l0.length : Int)
          ·rw [if_pos c13] at H
           have fZ : decide ((du) < (l0.length : Int)) = true := decide_eq_true c13
           clear c13
           replace H := Option.bind_eq_some_iff.mp H
           obtain ⟨r6, tu, H⟩ := H
           (try dsimp only at H)
           have Dy := Aside0.mk tu
           clear tu
           have H' := Aside0.mk H
           clear H
           try go_wp2
           have n0_ : Aside0 ((((w6.setCell ⟨bd, 0, none⟩ (.int .i64 ((rd_T76 l0 aA).f0))).setCell ⟨bd, 1, none⟩ (.int .i64 ((rd_T76 l0 aA).f1))).setCell ⟨bd, 2, none⟩ (.int .i64 ((rd_T76 l0 aA).f2))).heap[bd]? = some (.cells #[.int .i64 ((rd_T76 l0 aA).f0), .int .i64 ((rd_T76 l0 aA).f1), .int .i64 ((rd_T76 l0 aA).f2)] 76 (0, 0))) := ⟨Z45⟩
           have n1_ : Aside0 (Below w.heap.size w (((w6.setCell ⟨bd, 0, none⟩ (.int .i64 ((rd_T76 l0 aA).f0))).setCell ⟨bd, 1, none⟩ (.int .i64 ((rd_T76 l0 aA).f1))).setCell ⟨bd, 2, none⟩ (.int .i64 ((rd_T76 l0 aA).f2)))) := ⟨Z22⟩
           (try clear aG)
           (try clear HB)
           generalize (((w6.setCell ⟨bd, 0, none⟩ (.int .i64 ((rd_T76 l0 aA).f0))).setCell ⟨bd, 1, none⟩ (.int .i64 ((rd_T76 l0 aA).f1))).setCell ⟨bd, 2, none⟩ (.int .i64 ((rd_T76 l0 aA).f2))) = l8 at n0_ n1_ ⊢
           have aG := n0_
           have HB := n1_
           clear n0_ n1_
           refine k2_ (blk_drew aG.out) (below_drew1 HB.out) ?_
           clear aG HB
           intro aG HB
           have vX : 0 ≤ ((du) : Int) := of_decide_eq_true (Z4)
           have vY : (du) < (l0.length : Int) := of_decide_eq_true (Z4)
           obtain ⟨ad136, e136, gp, gq, gr⟩ := at_T76 HR0.out (du) vX vY
           have hw136_2 := gr
           have hw136_1 := gq
           have hw136_0 := gp
           obtain rfl : f8 = ad136 := (by injection e136)
           replace gp := (HB.out.cell (World.block_lt_of_cell? w _ gp)).trans gp
           replace gq := (HB.out.cell (World.block_lt_of_cell? w _ gq)).trans gq
           replace gr := (HB.out.cell (World.block_lt_of_cell? w _ gr)).trans gr
           replace vX := eq_true vX
           replace vY := eq_true vY
           refine start_ (n := 17) (S := fun w' => w'.cell? ⟨bd, 0, none⟩ = some (.int .i64 ((rd_T76 l0 aA).f0)) ∧ w'.cell? ⟨bd, 1, none⟩ = some (.int .i64 ((rd_T76 l0 aA).f1)) ∧ w'.cell? ⟨bd, 2, none⟩ = some (.int .i64 ((rd_T76 l0 aA).f2)) ∧ w'.cell? (f8.add (((du)).toNat * 3)) = some (.int .i64 ((rd_T76 l0 (du)).f0)) ∧ w'.cell? ⟨(f8.add (((du)).toNat * 3)).block, (f8.add (((du)).toNat * 3)).off + 1, none⟩ = some (.int .i64 ((rd_T76 l0 (du)).f1)) ∧ w'.cell? ⟨(f8.add (((du)).toNat * 3)).block, (f8.add (((du)).toNat * 3)).off + 2, none⟩ = some (.int .i64 ((rd_T76 l0 (du)).f2))) (ds := []) (M_ 0 17) (by kernel_rfl) rfl rfl ⟨(blk_cell aG.out 0).trans rfl, (blk_cell aG.out 1).trans rfl, (blk_cell aG.out 2).trans rfl, ((HB.out.cell (World.block_lt_of_cell? w _ hw136_0)).trans hw136_0), ((HB.out.cell (World.block_lt_of_cell? w _ hw136_1)).trans hw136_1), ((HB.out.cell (World.block_lt_of_cell? w _ hw136_2)).trans hw136_2)⟩ (fun hHeld => ?_); refine with_tabW spec_shGood.tab4 spec_shGood.bits4 (fun HT_ HW_ => ?_)
           generalize l8.drew = pw at aG HB gp gq gr hHeld ⊢
           refine tk6_ 0 14 (M_ 1 16) hHeld ?_
           refine one_ (i := 1) (N := some 15) (M_ 2 15) rfl rfl (one_of HT_.out (by kernel_rfl)) (by decide) (fun K hK => ?_)
           refine goes_ Tryz.func96 (by kernel_rfl) rfl #[.agg #[.int .i64 ((rd_T76 l0 aA).f0), .int .i64 ((rd_T76 l0 aA).f1), .int .i64 ((rd_T76 l0 aA).f2)]] (by rfl) rfl rfl (Z58) ?_
           with_reducible refine (spec_shHole.calls ((rd_T76 l0 aA).f0) ((rd_T76 l0 aA).f1) ((rd_T76 l0 aA).f2) true _ A8.out).mono ?_
           rintro e vC ⟨rfl, hb⟩
           refine ⟨_, rfl, ?_⟩
           have n0_ := Aside0.mk (Ye_ aG)
           have n1_ := Aside0.mk (below_step (Z22) hb)
           clear aG
           clear HB
           have aG := n0_
           have HB := n1_
           clear n0_ n1_
           (try clear hb)
           (try clear hb2)
           (try clear hk)
           (try clear hi)
           refine hK.out _ _ ⟨(blk_cell aG.out 0).trans rfl, (blk_cell aG.out 1).trans rfl, (blk_cell aG.out 2).trans rfl, ((HB.out.cell (World.block_lt_of_cell? w _ hw136_0)).trans hw136_0), ((HB.out.cell (World.block_lt_of_cell? w _ hw136_1)).trans hw136_1), ((HB.out.cell (World.block_lt_of_cell? w _ hw136_2)).trans hw136_2)⟩ (fun hHeld => ?_)
           clear hK K
           refine norm_ (a' := ?_) ?_ ?_
           rotate_left
           ·show Act.put _ (some 15) _ = _
            simp only [Act.put, List.setIfInBounds_toArray, List.set_cons_zero, List.set_cons_succ, i64_w, i32_w]
            rfl
           refine pu_ 2 16 (M_ 3 14) ?_
           refine pu_ 3 17 (M_ 4 13) ?_
           refine pu_ 4 18 (M_ 5 12) ?_
           refine pu_ 5 19 (M_ 6 11) ?_
           refine pu_ 6 20 (M_ 7 10) ?_
           refine pu_ 7 21 (M_ 8 9) ?_
           refine pu_ 8 22 (M_ 9 8) ?_
           refine pu_ 9 23 (M_ 10 7) ?_
           refine pu_ 10 24 (M_ 11 6) ?_
           refine tk6_ 11 25 (M_ 12 5) hHeld ?_
           refine tk6_ 12 26 (M_ 13 4) hHeld ?_
           refine one_ (i := 13) (N := some 27) (M_ 14 3) rfl rfl (one_of HT_.out (by kernel_rfl)) (by decide) (fun K hK => ?_)
           refine goes_ Tryz.func82 (by kernel_rfl) rfl #[.agg #[.int .i64 ((rd_T76 l0 (du)).f0), .int .i64 ((rd_T76 l0 (du)).f1), .int .i64 ((rd_T76 l0 (du)).f2)], .agg #[.int .i64 ((rd_T76 l0 aA).f0), .int .i64 ((rd_T76 l0 aA).f1), .int .i64 ((rd_T76 l0 aA).f2)]] (by rfl) rfl rfl (by (try simp only [List.map_toArray, List.map_cons, List.map_nil]); first | done | (simp only [hji11]; rfl) | rfl | (simp only [List.length_drop, List.length_take]; rfl)) ?_
           with_reducible refine (spec_shBefore.calls ((rd_T76 l0 (du)).f0) ((rd_T76 l0 (du)).f1) ((rd_T76 l0 (du)).f2) ((rd_T76 l0 aA).f0) ((rd_T76 l0 aA).f1) ((rd_T76 l0 aA).f2) r6 _ Dy.out).mono ?_
           rintro e Da ⟨rfl, hb⟩
           refine ⟨_, rfl, ?_⟩
           have n0_ := Aside0.mk (Ye_ aG)
           have n1_ := Aside0.mk (below_step (Z22) hb)
           clear aG
           clear HB
           have aG := n0_
           have HB := n1_
           clear n0_ n1_
           refine hK.out _ _ ⟨(blk_cell aG.out 0).trans rfl, (blk_cell aG.out 1).trans rfl, (blk_cell aG.out 2).trans rfl, ((HB.out.cell (World.block_lt_of_cell? w _ hw136_0)).trans hw136_0), ((HB.out.cell (World.block_lt_of_cell? w _ hw136_1)).trans hw136_1), ((HB.out.cell (World.block_lt_of_cell? w _ hw136_2)).trans hw136_2)⟩ (fun hHeld => ?_)
           clear hK K
           refine norm_ (a' := ?_) ?_ ?_
           rotate_left
           ·show Act.put _ (some 27) _ = _
            simp only [Act.put, List.setIfInBounds_toArray, List.set_cons_zero, List.set_cons_succ, i64_w, i32_w]
            rfl
           refine pu_ 14 28 (M_ 15 2) ?_
           refine pu_ 15 29 (M_ 16 1) ?_
           refine pu_ 16 30 (M_ 17 0) ?_
           refine done_ (done_of HT_.out (by kernel_rfl)) ?_
           try go_wp2
           go_meet
           case rel => exact ⟨_, (!r6), (Z16), H', ⟨Z96 HK1⟩, ⟨Z6 aG⟩, ⟨Z22⟩⟩
          rw [if_neg c13] at H
          exact absurd H (by simp)
         rw [if_neg c12] at H
         exact absurd H (by simp)
        rw [if_neg c10] at H
        have cg : decide (0 < aA) = false := decide_eq_false c10
        clear c10
        (first | rw [cg] | (simp only [i64_w, i32_w]; rw [cg]) | skip)
        have H' := Aside0.mk H
        clear H
        try go_wp2
        have n0_ : Aside0 ((((w6.setCell ⟨bd, 0, none⟩ (.int .i64 ((rd_T76 l0 aA).f0))).setCell ⟨bd, 1, none⟩ (.int .i64 ((rd_T76 l0 aA).f1))).setCell ⟨bd, 2, none⟩ (.int .i64 ((rd_T76 l0 aA).f2))).heap[bd]? = some (.cells #[.int .i64 ((rd_T76 l0 aA).f0), .int .i64 ((rd_T76 l0 aA).f1), .int .i64 ((rd_T76 l0 aA).f2)] 76 (0, 0))) := ⟨Z45⟩
        have n1_ : Aside0 (Below w.heap.size w (((w6.setCell ⟨bd, 0, none⟩ (.int .i64 ((rd_T76 l0 aA).f0))).setCell ⟨bd, 1, none⟩ (.int .i64 ((rd_T76 l0 aA).f1))).setCell ⟨bd, 2, none⟩ (.int .i64 ((rd_T76 l0 aA).f2)))) := ⟨Z22⟩
        (try clear aG)
        (try clear HB)
        generalize (((w6.setCell ⟨bd, 0, none⟩ (.int .i64 ((rd_T76 l0 aA).f0))).setCell ⟨bd, 1, none⟩ (.int .i64 ((rd_T76 l0 aA).f1))).setCell ⟨bd, 2, none⟩ (.int .i64 ((rd_T76 l0 aA).f2))) = DI at n0_ n1_ ⊢
        have aG := n0_
        have HB := n1_
        clear n0_ n1_
        refine k2_ (blk_drew aG.out) (below_drew1 HB.out) ?_
        clear aG HB
        intro aG HB
        refine start_ (n := 17) (S := fun w' => w'.cell? ⟨bd, 0, none⟩ = some (.int .i64 ((rd_T76 l0 aA).f0)) ∧ w'.cell? ⟨bd, 1, none⟩ = some (.int .i64 ((rd_T76 l0 aA).f1)) ∧ w'.cell? ⟨bd, 2, none⟩ = some (.int .i64 ((rd_T76 l0 aA).f2))) (ds := []) (M_ 0 17) (by kernel_rfl) rfl rfl ⟨(blk_cell aG.out 0).trans rfl, (blk_cell aG.out 1).trans rfl, (blk_cell aG.out 2).trans rfl⟩ (fun hHeld => ?_); refine with_tabW spec_shGood.tab4 spec_shGood.bits4 (fun HT_ HW_ => ?_)
        generalize DI.drew = D8 at aG HB hHeld ⊢
        refine tk3_ 0 14 (M_ 1 16) hHeld ?_
        refine one_ (i := 1) (N := some 15) (M_ 2 15) rfl rfl (one_of HT_.out (by kernel_rfl)) (by decide) (fun K hK => ?_)
        refine goes_ Tryz.func96 (by kernel_rfl) rfl #[.agg #[.int .i64 ((rd_T76 l0 aA).f0), .int .i64 ((rd_T76 l0 aA).f1), .int .i64 ((rd_T76 l0 aA).f2)]] (by rfl) rfl rfl (Z58) ?_
        with_reducible refine (spec_shHole.calls ((rd_T76 l0 aA).f0) ((rd_T76 l0 aA).f1) ((rd_T76 l0 aA).f2) true _ A8.out).mono ?_
        rintro e w21 ⟨rfl, hb⟩
        refine ⟨_, rfl, ?_⟩
        have n0_ := Aside0.mk (Ye_ aG)
        have n1_ := Aside0.mk (below_step (Z22) hb)
        clear aG
        clear HB
        have aG := n0_
        have HB := n1_
        clear n0_ n1_
        (try clear hb)
        (try clear hb2)
        (try clear hk)
        (try clear hi)
        refine hK.out _ _ ⟨(blk_cell aG.out 0).trans rfl, (blk_cell aG.out 1).trans rfl, (blk_cell aG.out 2).trans rfl⟩ (fun hHeld => ?_)
        clear hK K
        refine norm_ (a' := ?_) ?_ ?_
        rotate_left
        ·show Act.put _ (some 15) _ = _
         simp only [Act.put, List.setIfInBounds_toArray, List.set_cons_zero, List.set_cons_succ, i64_w, i32_w]
         rfl
        refine pu_ 2 16 (M_ 3 14) ?_
        refine pu_ 3 17 (M_ 4 13) ?_
        refine pu_ 4 18 (M_ 5 12) ?_
        refine pu_ 5 19 (M_ 6 11) ?_
        refine pu_ 6 20 (M_ 7 10) ?_
        refine pn_ 7 21 (M_ 8 9) ?_
        refine pn_ 8 22 (M_ 9 8) ?_
        refine pn_ 9 23 (M_ 10 7) ?_
        refine pn_ 10 24 (M_ 11 6) ?_
        refine pn_ 11 25 (M_ 12 5) ?_
        refine pn_ 12 26 (M_ 13 4) ?_
        refine pn_ 13 27 (M_ 14 3) ?_
        refine pn_ 14 28 (M_ 15 2) ?_
        refine pu_ 15 29 (M_ 16 1) ?_
        refine pu_ 16 30 (M_ 17 0) ?_
        refine done_ (done_of HT_.out (by kernel_rfl)) ?_
        try go_wp2
        go_meet
        case rel => exact ⟨_, (false), (Z16), H', ⟨Z96 HK1⟩, ⟨Z6 aG⟩, ⟨Z22⟩⟩
       replace c9 := Bool.eq_false_iff.mpr c9
       subst c9
       rw [if_neg (show ¬ (false = true) by decide)] at H
       have H' := Aside0.mk H
       clear H
       try go_wp2
       have n0_ : Aside0 ((((w6.setCell ⟨bd, 0, none⟩ (.int .i64 ((rd_T76 l0 aA).f0))).setCell ⟨bd, 1, none⟩ (.int .i64 ((rd_T76 l0 aA).f1))).setCell ⟨bd, 2, none⟩ (.int .i64 ((rd_T76 l0 aA).f2))).heap[bd]? = some (.cells #[.int .i64 ((rd_T76 l0 aA).f0), .int .i64 ((rd_T76 l0 aA).f1), .int .i64 ((rd_T76 l0 aA).f2)] 76 (0, 0))) := ⟨Z45⟩
       have n1_ : Aside0 (Below w.heap.size w (((w6.setCell ⟨bd, 0, none⟩ (.int .i64 ((rd_T76 l0 aA).f0))).setCell ⟨bd, 1, none⟩ (.int .i64 ((rd_T76 l0 aA).f1))).setCell ⟨bd, 2, none⟩ (.int .i64 ((rd_T76 l0 aA).f2)))) := ⟨Z22⟩
       (try clear aG)
       (try clear HB)
       generalize (((w6.setCell ⟨bd, 0, none⟩ (.int .i64 ((rd_T76 l0 aA).f0))).setCell ⟨bd, 1, none⟩ (.int .i64 ((rd_T76 l0 aA).f1))).setCell ⟨bd, 2, none⟩ (.int .i64 ((rd_T76 l0 aA).f2))) = vA at n0_ n1_ ⊢
       have aG := n0_
       have HB := n1_
       clear n0_ n1_
       refine k2_ (blk_drew aG.out) (below_drew1 HB.out) ?_
       clear aG HB
       intro aG HB
       refine start_ (n := 17) (S := fun w' => w'.cell? ⟨bd, 0, none⟩ = some (.int .i64 ((rd_T76 l0 aA).f0)) ∧ w'.cell? ⟨bd, 1, none⟩ = some (.int .i64 ((rd_T76 l0 aA).f1)) ∧ w'.cell? ⟨bd, 2, none⟩ = some (.int .i64 ((rd_T76 l0 aA).f2))) (ds := []) (M_ 0 17) (by kernel_rfl) rfl rfl ⟨(blk_cell aG.out 0).trans rfl, (blk_cell aG.out 1).trans rfl, (blk_cell aG.out 2).trans rfl⟩ (fun hHeld => ?_); refine with_tabW spec_shGood.tab4 spec_shGood.bits4 (fun HT_ HW_ => ?_)
       generalize vA.drew = AC at aG HB hHeld ⊢
       refine tk3_ 0 14 (M_ 1 16) hHeld ?_
       refine one_ (i := 1) (N := some 15) (M_ 2 15) rfl rfl (one_of HT_.out (by kernel_rfl)) (by decide) (fun K hK => ?_)
       refine goes_ Tryz.func96 (by kernel_rfl) rfl #[.agg #[.int .i64 ((rd_T76 l0 aA).f0), .int .i64 ((rd_T76 l0 aA).f1), .int .i64 ((rd_T76 l0 aA).f2)]] (by rfl) rfl rfl (Z58) ?_
       with_reducible refine (spec_shHole.calls ((rd_T76 l0 aA).f0) ((rd_T76 l0 aA).f1) ((rd_T76 l0 aA).f2) false _ A8.out).mono ?_
       rintro e jE ⟨rfl, hb⟩
       refine ⟨_, rfl, ?_⟩
       have n0_ := Aside0.mk (Ye_ aG)
       have n1_ := Aside0.mk (below_step (Z22) hb)
       clear aG
       clear HB
       have aG := n0_
       have HB := n1_
       clear n0_ n1_
       (try clear hb)
       (try clear hb2)
       (try clear hk)
       (try clear hi)
       refine hK.out _ _ ⟨(blk_cell aG.out 0).trans rfl, (blk_cell aG.out 1).trans rfl, (blk_cell aG.out 2).trans rfl⟩ (fun hHeld => ?_)
       clear hK K
       refine norm_ (a' := ?_) ?_ ?_
       rotate_left
       ·show Act.put _ (some 15) _ = _
        simp only [Act.put, List.setIfInBounds_toArray, List.set_cons_zero, List.set_cons_succ, i64_w, i32_w]
        rfl
       refine pu_ 2 16 (M_ 3 14) ?_
       refine pu_ 3 17 (M_ 4 13) ?_
       refine pn_ 4 18 (M_ 5 12) ?_
       refine pn_ 5 19 (M_ 6 11) ?_
       refine pn_ 6 20 (M_ 7 10) ?_
       refine pn_ 7 21 (M_ 8 9) ?_
       refine pn_ 8 22 (M_ 9 8) ?_
       refine pn_ 9 23 (M_ 10 7) ?_
       refine pn_ 10 24 (M_ 11 6) ?_
       refine pn_ 11 25 (M_ 12 5) ?_
       refine pn_ 12 26 (M_ 13 4) ?_
       refine pn_ 13 27 (M_ 14 3) ?_
       refine pn_ 14 28 (M_ 15 2) ?_
       refine pn_ 15 29 (M_ 16 1) ?_
       refine pu_ 16 30 (M_ 17 0) ?_
       refine done_ (done_of HT_.out (by kernel_rfl)) ?_
       try go_wp2
       go_meet
       case rel => exact ⟨_, (true), (Z16), H', ⟨Z96 HK1⟩, ⟨Z6 aG⟩, ⟨Z22⟩⟩
      case rest =>
       clear HC5
       (try clear c1); (try clear p1); (try clear q1); (try clear hx1); (try clear c2); (try clear fi); (try clear p2); (try clear c3); (try clear dj); (try clear c4); (try clear fj); (try clear p6); (try clear c8); (try clear c9); (try clear c10); (try clear cg); (try clear c12); (try clear iE); (try clear c13); (try clear fZ); (try clear p13); (try clear q13); (try clear hx13); (try clear uq); (try clear ur); (try clear us); (try clear ut); (try clear uu); (try clear uv); (try clear jj); (try clear jk); (try clear jl); (try clear gp); (try clear gq); (try clear gr); (try clear vV); (try clear vX); (try clear vW); (try clear vY)
       obtain ⟨kq, cN, rfl, HA, AA, aG, HB⟩ := hcut
       cases kq with
       | zero => exact absurd HA.out (by simp [spec_shGood.j1])
       | succ lB =>
        have H := HA.out
        clear HA
        simp only [spec_shGood.j1] at H
        by_cases c25 : cN = true
        ·subst c25
         rw [if_pos rfl] at H
         obtain rfl := Option.some.inj H
         go_wp2
         go_ret
         exact ⟨Z12, Z22⟩
        replace c25 := Bool.eq_false_iff.mpr c25
        subst c25
        rw [if_neg (show ¬ (false = true) by decide)] at H
        by_cases c26 : 0 ≤ aA
        ·rw [if_pos c26] at H
         have xd := eq_true c26
         have c26b1 : decide (0 ≤ aA) = true := decide_eq_true c26
         clear c26
         by_cases c27 : aA ≤ (l0.length : Int)
         ·rw [if_pos c27] at H
          have ek := eq_true c27
          have jU : decide (aA ≤ (l0.length : Int)) = true := decide_eq_true c27
          clear c27
          obtain ⟨d3, ow⟩ : ∃ y_ : List (S76), y_ = (l0.take (aA : Int).toNat) := ⟨_, rfl⟩
          replace H : (spec_shGood.l1 lB l0 l0 (l0.length : Int) aA d3 (d3.length : Int) 0 ((rd_T76 l0 aA).f0) ((rd_T76 l0 aA).f1) ((rd_T76 l0 aA).f2)) = some r := by first | (rw [ow]; with_reducible exact H) | (have H2_ := (Option.bind_some _ _).symm.trans H; rw [ow]; with_reducible exact H2_) | (have H2_ := (Option.bind_some _ _).symm.trans H; with_reducible exact H2_) | with_reducible exact H | (rw [ow]; exact H) | exact H
          have xM := Aside0.mk ow
          clear ow
          have H' := Aside0.mk H
          clear H
          have xf : (aA : Int) ≤ ((l0.length : Int) : Int) := of_decide_eq_true (Z4)
          obtain ⟨i028, hi028, _, hsz28, _⟩ := info_parts info76
          have hroom28 : l0.length ≤ c0 := HC0.out
          have hC28 : Kd.C k76 _ (some f8) l0.length l0 := HR0.out
          have hcut28 := cut_to (P := Tryz.prog) 58 76 .i64 Tryz.underlying58 hi028 (some f8) l0.length c0 aA (of_decide_eq_true (Z4)) xf hroom28
          have hr28 := Kd.C_take (m := (aA : Int).toNat) hC28 (by omega)
          have p8 : d3.length = (aA : Int).toNat := (by rw [xM.out, List.length_take]; omega)
          rw [← xM.out] at hr28
          rw [← p8] at hcut28
          have HR141 := Aside0.mk hr28
          have HC141 := Aside0.mk (show d3.length ≤ c0 from by omega)
          clear hr28 hC28 hroom28 hi028 hsz28
          have KY28 := Aside0.mk p8
          clear p8
          replace xf := eq_true xf
          go_wp2
          go_loopg [35] lB (fun kq v35 w' => ∃ (bT : Int), v35 = .int .i64 bT ∧ Aside0 (spec_shGood.l1 kq l0 l0 (l0.length : Int) aA d3 (d3.length : Int) bT ((rd_T76 l0 aA).f0) ((rd_T76 l0 aA).f1) ((rd_T76 l0 aA).f2) = some r) ∧ Aside0 (kq ≤ lB) ∧ Aside0 (w'.heap[bd]? = some (.cells #[.int .i64 ((rd_T76 l0 aA).f0), .int .i64 ((rd_T76 l0 aA).f1), .int .i64 ((rd_T76 l0 aA).f2)] 76 (0, 0))) ∧ Aside0 (Below w.heap.size w w'))
          case atStart => exact ⟨(0), (Z16), H', ⟨Nat.le_refl _⟩, ⟨Z6 aG⟩, ⟨Z22⟩⟩
          case round =>
           clear H'
           (try clear q2); (try clear c25); (try clear c26); (try clear xd); (try clear c26b1); (try clear c27); (try clear ek); (try clear jU); (try clear xf)
           obtain ⟨bT, rfl, HA, HK3, aG, HB⟩ := hrel
           cases gk with
           | zero => exact absurd HA.out (by simp [spec_shGood.l1])
           | succ k3 =>
            have H := HA.out
            clear HA
            simp only [spec_shGood.l1] at H
            by_cases c29 : bT < (d3.length : Int)
            ·rw [if_pos c29] at H
             have ox : decide (bT < (d3.length : Int)) = true := decide_eq_true c29
             clear c29
             by_cases c30 : 0 ≤ bT
             ·rw [if_pos c30] at H
              have xN : decide (0 ≤ bT) = true := decide_eq_true c30
              clear c30
              by_cases c31 : bT < (d3.length : Int)
              ·rw [if_pos c31] at H
               have tL : decide (bT < (d3.length : Int)) = true := decide_eq_true c31
               clear c31
               by_cases c32 : ((rd_T76 l0 aA).f0) = ((rd_T76 d3 bT).f0)
               ·rw [if_pos c32] at H
                have rp : (((rd_T76 l0 aA).f0) == ((rd_T76 d3 bT).f0)) = true := beq_iff_eq.mpr c32
                have rq : (((rd_T76 l0 aA).f0) != ((rd_T76 d3 bT).f0)) = false := bne_eq_false_iff_eq.mpr c32
                clear c32
                by_cases c33 : ((rd_T76 d3 bT).f2) ≥ ((rd_T76 l0 aA).f1)
                ·rw [if_pos c33] at H
                 have ra : decide (((rd_T76 l0 aA).f1) ≤ ((rd_T76 d3 bT).f2)) = true := decide_eq_true c33
                 clear c33
                 obtain rfl := Option.some.inj H
                 have jV : 0 ≤ (bT : Int) := of_decide_eq_true (Z4)
                 have jW : bT < (d3.length : Int) := of_decide_eq_true (Z4)
                 obtain ⟨oy, e142, de, df, dg⟩ := at_T76 HR141.out bT jV jW
                 obtain rfl : f8 = oy := (by injection e142)
                 replace de := (HB.out.cell (World.block_lt_of_cell? w _ de)).trans de
                 replace df := (HB.out.cell (World.block_lt_of_cell? w _ df)).trans df
                 replace dg := (HB.out.cell (World.block_lt_of_cell? w _ dg)).trans dg
                 replace jV := eq_true jV
                 replace jW := eq_true jW
                 go_wp2_with (first | ((with_reducible refine gate_dst (N := 6) rfl ?_); refine bv_ 6 76 #[.int .i64 0, .int .i64 0, .int .i64 0] ?_; intro eP hg ne hbox hb; refine k7_ (Ye_ aG) (below_step (Z22) hb) (hbox) ((Z148 : w.heap.size ≤ eP)) ((Z148 : w.heap.size ≤ eP)) ((Z99 : bd ≠ eP)) ((Z100 : eP ≠ bd)) ?_; clear aG HB; intro aG HB oz xO sE cY fd; clear hb hbox hg; have hnb35 := fd.out; have hnc35 := cY.out; obtain ⟨hcz36_0, hcz36_1, hcz36_2, hfz36_0, hfz36_1, hfz36_2⟩ := bx3_ (w := ne) oz.out; obtain ⟨hcz37_0, hcz37_1, hcz37_2, hfz37_0, hfz37_1, hfz37_2⟩ := bx3_ (w := ne) aG.out))
                 go_ret
                 exact ⟨Z12, Z93⟩
                rw [if_neg c33] at H
                have ra : decide (((rd_T76 l0 aA).f1) ≤ ((rd_T76 d3 bT).f2)) = false := decide_eq_false c33
                clear c33
                have H' := Aside0.mk H
                clear H
                have jV : 0 ≤ (bT : Int) := of_decide_eq_true (Z4)
                have jW : bT < (d3.length : Int) := of_decide_eq_true (Z4)
                obtain ⟨oy, e142, de, df, dg⟩ := at_T76 HR141.out bT jV jW
                obtain rfl : f8 = oy := (by injection e142)
                replace de := (HB.out.cell (World.block_lt_of_cell? w _ de)).trans de
                replace df := (HB.out.cell (World.block_lt_of_cell? w _ df)).trans df
                replace dg := (HB.out.cell (World.block_lt_of_cell? w _ dg)).trans dg
                replace jV := eq_true jV
                replace jW := eq_true jW
                go_wp2_with (first | ((with_reducible refine gate_dst (N := 6) rfl ?_); refine bv_ 6 76 #[.int .i64 0, .int .i64 0, .int .i64 0] ?_; intro eP hg dz hbox hb; refine k7_ (Ye_ aG) (below_step (Z22) hb) (hbox) ((Z148 : w.heap.size ≤ eP)) ((Z148 : w.heap.size ≤ eP)) ((Z99 : bd ≠ eP)) ((Z100 : eP ≠ bd)) ?_; clear aG HB; intro aG HB oz xO sE cY fd; clear hb hbox hg; have hnb39 := fd.out; have hnc39 := cY.out; obtain ⟨hcz40_0, hcz40_1, hcz40_2, hfz40_0, hfz40_1, hfz40_2⟩ := bx3_ (w := dz) oz.out; obtain ⟨hcz41_0, hcz41_1, hcz41_2, hfz41_0, hfz41_1, hfz41_2⟩ := bx3_ (w := dz) aG.out))
                go_roundg k3
                case measure => have := HK1.out; have := AA.out; have := HK3.out; omega
                case rel => exact ⟨(wrap64 (bT + 1)), (Z16), H', ⟨Z165⟩, ⟨Z73⟩, ⟨Z93⟩⟩
               rw [if_neg c32] at H
               have rp : (((rd_T76 l0 aA).f0) == ((rd_T76 d3 bT).f0)) = false := beq_eq_false_iff_ne.mpr c32
               have rq : (((rd_T76 l0 aA).f0) != ((rd_T76 d3 bT).f0)) = true := bne_iff_ne.mpr c32
               have H' := Aside0.mk H
               clear H
               have jV : 0 ≤ (bT : Int) := of_decide_eq_true (Z4)
               have jW : bT < (d3.length : Int) := of_decide_eq_true (Z4)
               obtain ⟨oy, e142, de, df, dg⟩ := at_T76 HR141.out bT jV jW
               obtain rfl : f8 = oy := (by injection e142)
               replace de := (HB.out.cell (World.block_lt_of_cell? w _ de)).trans de
               replace df := (HB.out.cell (World.block_lt_of_cell? w _ df)).trans df
               replace dg := (HB.out.cell (World.block_lt_of_cell? w _ dg)).trans dg
               replace jV := eq_true jV
               replace jW := eq_true jW
               go_wp2_with (first | ((with_reducible refine gate_dst (N := 6) rfl ?_); refine bv_ 6 76 #[.int .i64 0, .int .i64 0, .int .i64 0] ?_; intro eP hg Bt hbox hb; refine k7_ (Ye_ aG) (below_step (Z22) hb) (hbox) ((Z148 : w.heap.size ≤ eP)) ((Z148 : w.heap.size ≤ eP)) ((Z99 : bd ≠ eP)) ((Z100 : eP ≠ bd)) ?_; clear aG HB; intro aG HB oz xO sE cY fd; clear hb hbox hg; have hnb43 := fd.out; have hnc43 := cY.out; obtain ⟨hcz44_0, hcz44_1, hcz44_2, hfz44_0, hfz44_1, hfz44_2⟩ := bx3_ (w := Bt) oz.out; obtain ⟨hcz45_0, hcz45_1, hcz45_2, hfz45_0, hfz45_1, hfz45_2⟩ := bx3_ (w := Bt) aG.out))
               go_roundg k3
               case measure => have := HK1.out; have := AA.out; have := HK3.out; omega
               case rel => exact ⟨(wrap64 (bT + 1)), (Z16), H', ⟨Z165⟩, ⟨Z73⟩, ⟨Z93⟩⟩
              rw [if_neg c31] at H
              exact absurd H (by simp)
             rw [if_neg c30] at H
             exact absurd H (by simp)
            rw [if_neg c29] at H
            have ox : decide (bT < (d3.length : Int)) = false := decide_eq_false c29
            clear c29
            have H' := Aside0.mk H
            clear H
            go_wp2
            go_roundg k3
            case measure => have := HK1.out; have := AA.out; have := HK3.out; omega
            case rel => exact ⟨(wrap64 (aA + 1)), (Z16), H', ⟨Z165⟩, ⟨Z22⟩⟩
         rw [if_neg c27] at H
         exact absurd H (by simp)
        rw [if_neg c26] at H
        exact absurd H (by simp)
     rw [if_neg c4] at H
     exact absurd H (by simp)
    rw [if_neg c3] at H
    exact absurd H (by simp)
   rw [if_neg c2] at H
   have fi : decide (aA < (l0.length : Int)) = false := decide_eq_false c2
   clear c2
   obtain rfl := Option.some.inj H
   go_wp2
   go_ret
   exact ⟨Z12, Z2⟩

end Go.Proofs.YtmnnmddfmmaohaaGreat.PFnHead
