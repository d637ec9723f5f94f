-- written by a program of this session: the kit's print, with outer functions of the session's own (wip/ext)
import Derived.Test.YtmnnmddfmmaohaaGreatPFnHeadx0
import Derived.Test.YtmnnmddfmmaohaaGreatPFnHeadx2
import Derived.Test.YtmnnmddfmmaohaaGreatPFnHeadx5
import Derived.Test.YtmnnmddfmmaohaaGreatPFnHeadx8
import Derived.Test.YtmnnmddfmmaohaaGreatPFnHeadx9
import Derived.Test.YtmnnmddfmmaohaaGreatPFnHeadx10
namespace Go.Proofs.YtmnnmddfmmaohaaGreat.PFnHead
open Go.RowKit Go.Proofs.YtmnnmddfmmaohaaGreatW.PrintWords Go.Proofs.YtmnnmddfmmaohaaGreatW.PrintLast Go.Proofs.YtmnnmddfmmaohaaGreatW.PrintMore
attribute [local go_sem] max2_int min2_int max_two min_two max_three min_three max_four min_four   -- for this text's walks alone
set_option linter.unusedVariables false
set_option linter.unusedSimpArgs false
theorem mo11_ {p : Prop} (h : p := by repeat' first | (with_reducible first | apply ih0 | apply ih0 | apply impl_AreStrokes.mono | apply impl_AreStrokes.mono | apply impl_wayOfHead.mono | apply impl_wayOfHead.mono | apply spec_DrawWearOf.mono | apply spec_DrawWearOf.mono | apply spec_l1Cur_strokes.mono | apply spec_l1Cur_strokes.mono | apply spec_puGood.mono | apply spec_puGood.mono | apply spec_puSum.mono | apply spec_puSum.mono | exact LeO.refl _ | exact LeO.none _ | refine LeO.ite ?_ ?_ | refine LeO.bind ?_ (fun _ => ?_)) | exact LeO.none _ | refine LeO.ite ?_ ?_ | refine LeO.bind ?_ (fun _ => ?_)) : p := h

/-! ### spec_puSum: function 31 -/
def spec_puSum.l0 : Nat → List (S30) → Int → Int → Int → Option (Int)
 | 0, _, _, _, _ => none
 | k + 1, x0, x1, x5, x6 => if x6 < (x0.length : Int) then (if 0 ≤ (wrap64 (x6 - 1)) then (if (wrap64 (x6 - 1)) < (x0.length : Int) then (if 0 ≤ x6 then ((spec_puWay.f ((rd_T30 x0 (wrap64 (x6 - 1))).f0) ((rd_T30 x0 (wrap64 (x6 - 1))).f1) ((rd_T30 x0 x6).f0) ((rd_T30 x0 x6).f1) x1).bind fun rF => (spec_puSum.l0 k x0 x1 (wrap64 (x5 + rF)) (wrap64 (x6 + 1)))) else (none)) else (none)) else (none)) else (some x5)
def spec_puSum.f (k : Nat) (l0 : List (S30)) (a1 : Int) : Option (Int) := spec_puSum.l0 k l0 a1 0 1
theorem spec_puSum.mono_l : ∀ k, (∀ y0 y1 y2 y3, LeO (spec_puSum.l0 k y0 y1 y2 y3) (spec_puSum.l0 (k + 1) y0 y1 y2 y3))
 | 0 => fun _ _ _ _ r h => by simp [spec_puSum.l0] at h
 | k + 1 => by
  have ih0 := spec_puSum.mono_l k
  ·intro y0 y1 y2 y3
   unfold spec_puSum.l0
   exact mo11_
theorem spec_puSum.mono : ∀ a0 a1 k, LeO (spec_puSum.f k a0 a1) (spec_puSum.f (k + 1) a0 a1) := by
 intro a0 a1 k
 have ih0 := spec_puSum.mono_l k
 unfold spec_puSum.f
 exact mo11_
def spec_puSum.T5 : Bool × List (List Nat × List Nat) := (true, [([], []), ([], []), ([], []), ([2], [2]), ([1, 3], [1, 3]), ([4], [4]), ([], []), ([], []), ([6, 7], [6, 7]), ([8], [8]), ([], []), ([5, 9, 10], [5, 9, 10]), ([0, 11], [0, 11]), ([12, 11, 0, 1, 2, 3, 4, 5, 6, 7, 8, 9, 10, 11, 12], [0, 12])])
def spec_puSum.B5 : List Nat := [0, 0, 0, 4, 14, 30, 0, 0, 192, 448, 0, 2046, 4095, 8191]
theorem spec_puSum.tab5 : rtab .any (opsOf Tryz.f31 5) = spec_puSum.T5 := by kernel_rfl
theorem spec_puSum.bits5 : waitsOk spec_puSum.T5.2 spec_puSum.B5 = true := by kernel_rfl
set_option maxHeartbeats 8000000 in
set_option maxRecDepth 100000 in
theorem spec_puSum.calls (k : Nat) (A0 : Option Addr) (c0 : Nat) (l0 : List (S30)) (a1 : Int) (r : Int) (w : World) (hr0 : Kd.C k30 w A0 l0.length l0) (hc0 : l0.length ≤ c0) (h : spec_puSum.f k l0 a1 = some r) :
  Calls Tryz.prog 31 #[.slice A0 l0.length c0, .int .i64 a1] w fun e w' => e = .returned (.int .i64 r) ∧ Below w.heap.size w w' := by
 have hu30 := Tryz.underlying30
 have HR0 := Aside0.mk hr0
 have HC0 := Aside0.mk hc0
 clear hr0 hc0
 have HB := Aside0.mk (Below.refl w.heap.size w)
 have H : (spec_puSum.l0 k l0 a1 0 1) = some r := h
 clear h
 have H' := Aside0.mk H
 clear H
 go_enter Tryz.func31, Tryz.ntmps31
 go_wp2
 go_loopg [5, 6] k (fun kq v5 v6 w' => ∃ (cq : Int) (aQ : Int), v5 = .int .i64 cq ∧ v6 = .int .i64 aQ ∧ Aside0 (spec_puSum.l0 kq l0 a1 cq aQ = some r) ∧ Aside0 (kq ≤ k) ∧ Aside0 (Below w.heap.size w w'))
 case atStart => exact ⟨(0), (1), (Z16), (Z16), H', ⟨Nat.le_refl _⟩, ⟨Z2⟩⟩
 case round =>
  clear H'
  (try clear p2)
  obtain ⟨cq, aQ, rfl, rfl, HA, HK1, HB⟩ := hrel
  cases gk with
  | zero => exact absurd HA.out (by simp [spec_puSum.l0])
  | succ k1 =>
   have H := HA.out
   clear HA
   simp only [spec_puSum.l0] at H
   by_cases c3 : aQ < (l0.length : Int)
   ·rw [if_pos c3] at H
    have dj : decide (aQ < (l0.length : Int)) = true := decide_eq_true c3
    clear c3
    obtain ⟨eW, hji4⟩ : ∃ j_ : Int, (wrap64 (aQ - 1)) = j_ := ⟨_, rfl⟩
    replace H : (if 0 ≤ (eW) then (if (eW) < (l0.length : Int) then (if 0 ≤ aQ then ((spec_puWay.f ((rd_T30 l0 (eW)).f0) ((rd_T30 l0 (eW)).f1) ((rd_T30 l0 aQ).f0) ((rd_T30 l0 aQ).f1) a1).bind fun rF => (spec_puSum.l0 k1 l0 a1 (wrap64 (cq + rF)) (wrap64 (aQ + 1)))) else (none)) else (none)) else (none)) = some r := by first | (rw [hji4] at H; exact H) | (simp only [hji4] at H ⊢; exact H)
    have hji4w : (IntKind.i64.wrap (aQ - 1)) = eW := (i64_w _).trans hji4
    by_cases c5 : 0 ≤ (eW)
    ·rw [if_pos c5] at H
     have fX : decide (0 ≤ (eW)) = true := decide_eq_true c5
     clear c5
     by_cases c6 : (eW) < (l0.length : Int)
     ·rw [if_pos c6] at H
      have iq : decide ((eW) < (l0.length : Int)) = true := decide_eq_true c6
      clear c6
      by_cases c7 : 0 ≤ aQ
      ·rw [if_pos c7] at H
       have gX : decide (0 ≤ aQ) = true := decide_eq_true c7
       clear c7
       replace H := Option.bind_eq_some_iff.mp H
       obtain ⟨rF, m7, H⟩ := H
       (try dsimp only at H)
       have A8 := Aside0.mk m7
       clear m7
       have H' := Aside0.mk H
       clear H
       try go_wp2
       refine k1_ (below_drew1 HB.out) ?_
       clear HB
       intro HB
       have yr : 0 ≤ ((eW) : Int) := of_decide_eq_true (Z4)
       have yt : (eW) < (l0.length : Int) := of_decide_eq_true (Z4)
       obtain ⟨jx, e493, gY, gZ⟩ := at_T30 HR0.out (eW) yr yt
       have hw493_1 := gZ
       have hw493_0 := gY
       cases e493
       replace gY := (HB.out.cell (World.block_lt_of_cell? w _ gY)).trans gY
       replace gZ := (HB.out.cell (World.block_lt_of_cell? w _ gZ)).trans gZ
       replace yr := eq_true yr
       replace yt := eq_true yt
       have yu : 0 ≤ (aQ : Int) := of_decide_eq_true (Z4)
       have yv : aQ < (l0.length : Int) := of_decide_eq_true (Z4)
       obtain ⟨ad494, e494, g0, g3⟩ := at_T30 HR0.out aQ yu yv
       have hw494_1 := g3
       have hw494_0 := g0
       obtain rfl : jx = ad494 := (by injection e494)
       replace g0 := (HB.out.cell (World.block_lt_of_cell? w _ g0)).trans g0
       replace g3 := (HB.out.cell (World.block_lt_of_cell? w _ g3)).trans g3
       replace yu := eq_true yu
       replace yv := eq_true yv
       refine start_ (n := 14) (S := fun w' => w'.cell? (jx.add (((eW)).toNat * 2)) = some (.int .i64 ((rd_T30 l0 (eW)).f0)) ∧ w'.cell? ⟨(jx.add (((eW)).toNat * 2)).block, (jx.add (((eW)).toNat * 2)).off + 1, none⟩ = some (.int .i64 ((rd_T30 l0 (eW)).f1)) ∧ w'.cell? (jx.add ((aQ).toNat * 2)) = some (.int .i64 ((rd_T30 l0 aQ).f0)) ∧ w'.cell? ⟨(jx.add ((aQ).toNat * 2)).block, (jx.add ((aQ).toNat * 2)).off + 1, none⟩ = some (.int .i64 ((rd_T30 l0 aQ).f1))) (ds := []) (M_ 0 14) (by kernel_rfl) rfl rfl ⟨((HB.out.cell (World.block_lt_of_cell? w _ hw493_0)).trans hw493_0), ((HB.out.cell (World.block_lt_of_cell? w _ hw493_1)).trans hw493_1), ((HB.out.cell (World.block_lt_of_cell? w _ hw494_0)).trans hw494_0), ((HB.out.cell (World.block_lt_of_cell? w _ hw494_1)).trans hw494_1)⟩ (fun hHeld => ?_); refine with_tabW spec_puSum.tab5 spec_puSum.bits5 (fun HT_ HW_ => ?_)
       generalize wr.drew = w9 at HB gY gZ g0 g3 hHeld ⊢
       refine pu_ 0 13 (M_ 1 13) ?_
       refine pu_ 1 14 (M_ 2 12) ?_
       refine pu_ 2 15 (M_ 3 11) ?_
       refine pu_ 3 16 (M_ 4 10) ?_
       refine pu_ 4 17 (M_ 5 9) ?_
       refine pu_ 6 19 (N_ 14 95) ?_
       refine pu_ 7 20 (N_ 14 223) ?_
       refine pu_ 8 21 (N_ 14 479) ?_
       refine pu_ 10 23 (N_ 14 1503) ?_
       refine tk4_ 5 18 (N_ 14 1535) hHeld ?_
       refine tk4_ 9 22 (M_ 11 3) hHeld ?_
       refine one_ (i := 11) (N := some 24) (M_ 12 2) rfl rfl (one_of HT_.out (by kernel_rfl)) (by decide) (fun K hK => ?_)
       refine goes_ Tryz.func47 (by kernel_rfl) rfl #[.agg #[.int .i64 ((rd_T30 l0 (eW)).f0), .int .i64 ((rd_T30 l0 (eW)).f1)], .agg #[.int .i64 ((rd_T30 l0 aQ).f0), .int .i64 ((rd_T30 l0 aQ).f1)], .int .i64 a1] (by rfl) rfl rfl (Z135) ?_
       with_reducible refine (spec_puWay.calls ((rd_T30 l0 (eW)).f0) ((rd_T30 l0 (eW)).f1) ((rd_T30 l0 aQ).f0) ((rd_T30 l0 aQ).f1) a1 rF _ A8.out).mono ?_
       rintro e ng ⟨rfl, hb⟩
       refine ⟨_, rfl, ?_⟩
       refine k1_ (below_step (Z2) hb) ?_
       clear HB
       intro HB
       (try clear hb)
       (try clear hb2)
       (try clear hk)
       (try clear hi)
       refine hK.out _ _ ⟨((HB.out.cell (World.block_lt_of_cell? w _ hw493_0)).trans hw493_0), ((HB.out.cell (World.block_lt_of_cell? w _ hw493_1)).trans hw493_1), ((HB.out.cell (World.block_lt_of_cell? w _ hw494_0)).trans hw494_0), ((HB.out.cell (World.block_lt_of_cell? w _ hw494_1)).trans hw494_1)⟩ (fun hHeld => ?_)
       clear hK K
       refine norm_ (a' := ?_) ?_ ?_
       rotate_left
       ·show Act.put _ (some 24) _ = _
        simp only [Act.put, List.setIfInBounds_toArray, List.set_cons_zero, List.set_cons_succ, i64_w, i32_w]
        rfl
       refine pu_ 12 25 (M_ 13 1) ?_
       refine pu_ 13 5 (M_ 14 0) ?_
       refine done_ (done_of HT_.out (by kernel_rfl)) ?_
       try go_wp2
       go_roundg k1
       case measure => have := HK1.out; omega
       case rel => exact ⟨(wrap64 (cq + rF)), (wrap64 (aQ + 1)), (Z16), (Z16), H', ⟨Z76 HK1⟩, ⟨Z2⟩⟩
      rw [if_neg c7] at H
      exact absurd H (by simp)
     rw [if_neg c6] at H
     exact absurd H (by simp)
    rw [if_neg c5] at H
    exact absurd H (by simp)
   rw [if_neg c3] at H
   have dj : decide (aQ < (l0.length : Int)) = false := decide_eq_false c3
   clear c3
   obtain rfl := Option.some.inj H
   go_wp2
   go_ret
   exact ⟨Z12, Z2⟩

/-! ### spec_SwapGain: function 7 -/
def spec_SwapGain.j0 : Nat → List (S30) → Int → Int → Int → Bool → Option (Int × Bool)
 | 0, _, _, _, _, _ => none
 | k + 1, x0, x1, x2, x3, x34 => if x34 = true then (some (0, false)) else ((some (([] : List (S30)) : List (S30))).bind fun ni => (if ni.length + x0.length < 8796093022208 then ((some (ni ++ x0 : List (S30))).bind fun cZ => (if 0 ≤ x2 then (if x2 < (x0.length : Int) then (if 0 ≤ x1 then (if x1 < (cZ.length : Int) then (if x1 < (x0.length : Int) then (if x2 < (cZ.length : Int) then ((spec_puSum.f k x0 x3).bind fun jy => ((spec_puSum.f k ((cZ.set (x1 : Int).toNat (⟨(rd_T30 x0 x2).f0, (rd_T30 x0 x2).f1⟩ : S30)).set (x2 : Int).toNat (⟨(rd_T30 x0 x1).f0, (rd_T30 x0 x1).f1⟩ : S30)) x3).bind fun jz => (some (wrap64 (jy - jz), true)))) else (none)) else (none)) else (none)) else (none)) else (none)) else (none))) else (none)))
def spec_SwapGain.f (k : Nat) (l0 : List (S30)) (a1 : Int) (a2 : Int) (a3 : Int) : Option (Int × Bool) := (spec_puGood.f k l0).bind fun sR => (if sR = true then ((spec_puAcross.f a3).bind fun sS => (if sS = true then ((spec_l1In.f a1 0 (wrap64 ((l0.length : Int) - 1))).bind fun sT => (if sT = true then ((spec_l1In.f a2 0 (wrap64 ((l0.length : Int) - 1))).bind fun rG => (spec_SwapGain.j0 k l0 a1 a2 a3 (!rG))) else (spec_SwapGain.j0 k l0 a1 a2 a3 true))) else (spec_SwapGain.j0 k l0 a1 a2 a3 true))) else (spec_SwapGain.j0 k l0 a1 a2 a3 true))
theorem spec_SwapGain.mono_l : ∀ k, (∀ y0 y1 y2 y3 y4, LeO (spec_SwapGain.j0 k y0 y1 y2 y3 y4) (spec_SwapGain.j0 (k + 1) y0 y1 y2 y3 y4))
 | 0 => fun _ _ _ _ _ r h => by simp [spec_SwapGain.j0] at h
 | k + 1 => by
  have ih0 := spec_SwapGain.mono_l k
  ·intro y0 y1 y2 y3 y4
   unfold spec_SwapGain.j0
   exact mo11_
theorem spec_SwapGain.mono : ∀ a0 a1 a2 a3 k, LeO (spec_SwapGain.f k a0 a1 a2 a3) (spec_SwapGain.f (k + 1) a0 a1 a2 a3) := by
 intro a0 a1 a2 a3 k
 have ih0 := spec_SwapGain.mono_l k
 unfold spec_SwapGain.f
 exact mo11_
set_option maxHeartbeats 8000000 in
set_option maxRecDepth 100000 in
theorem spec_SwapGain.calls (k : Nat) (A0 : Option Addr) (c0 : Nat) (l0 : List (S30)) (a1 : Int) (a2 : Int) (a3 : Int) (r1 : Int) (r2 : Bool) (w : World) (hr0 : Kd.C k30 w A0 l0.length l0) (hc0 : l0.length ≤ c0) (h : spec_SwapGain.f k l0 a1 a2 a3 = some (r1, r2)) :
  Calls Tryz.prog 7 #[.slice A0 l0.length c0, .int .i64 a1, .int .i64 a2, .int .i64 a3] w fun e w' => e = .returned (.tuple #[.int .i64 r1, .bool r2]) ∧ Below w.heap.size w w' := by
 have hu30 := Tryz.underlying30
 have HR0 := Aside0.mk hr0
 have HC0 := Aside0.mk hc0
 clear hr0 hc0
 have HB := Aside0.mk (Below.refl w.heap.size w)
 have H : ((spec_puGood.f k l0).bind fun sR => (if sR = true then ((spec_puAcross.f a3).bind fun sS => (if sS = true then ((spec_l1In.f a1 0 (wrap64 ((l0.length : Int) - 1))).bind fun sT => (if sT = true then ((spec_l1In.f a2 0 (wrap64 ((l0.length : Int) - 1))).bind fun rG => (spec_SwapGain.j0 k l0 a1 a2 a3 (!rG))) else (spec_SwapGain.j0 k l0 a1 a2 a3 true))) else (spec_SwapGain.j0 k l0 a1 a2 a3 true))) else (spec_SwapGain.j0 k l0 a1 a2 a3 true))) = some (r1, r2) := h
 clear h
 have HC5 := Aside0.mk H
 clear H
 go_enter Tryz.func7, Tryz.ntmps7
 go_upto_region 1 with (fail)
 go_cut [34] (fun Dr wc => ∃ (kq : Nat) (qP : Bool), Dr = .bool qP ∧ Aside0 (spec_SwapGain.j0 kq l0 a1 a2 a3 qP = some (r1, r2)) ∧ Aside0 (kq ≤ k) ∧ Aside0 (Below w.heap.size w wc))
 case first =>
  have H := HC5.out
  clear HC5
  replace H := Option.bind_eq_some_iff.mp H
  obtain ⟨sR, fV, H⟩ := H
  (try dsimp only at H)
  have A6 := Aside0.mk fV
  clear fV
  by_cases c7 : sR = true
  ·subst c7
   rw [if_pos rfl] at H
   replace H := Option.bind_eq_some_iff.mp H
   obtain ⟨sS, m7, H⟩ := H
   (try dsimp only at H)
   have A8 := Aside0.mk m7
   clear m7
   by_cases c9 : sS = true
   ·subst c9
    rw [if_pos rfl] at H
    replace H := Option.bind_eq_some_iff.mp H
    obtain ⟨sT, sU, H⟩ := H
    (try dsimp only at H)
    have Db := Aside0.mk sU
    clear sU
    by_cases c11 : sT = true
    ·subst c11
     rw [if_pos rfl] at H
     replace H := Option.bind_eq_some_iff.mp H
     obtain ⟨rG, nj, H⟩ := H
     (try dsimp only at H)
     have AB := Aside0.mk nj
     clear nj
     have H' := Aside0.mk H
     clear H
     go_wp2_with (first | ((with_reducible refine gate_callee (f := 28) rfl ?_); refine gl_ 12 Tryz.func28 #[.slice A0 l0.length c0] ?_; (with_reducible refine (spec_puGood.calls k _ _ l0 true _ ?_ ?_ A6.out).mono ?_); exact (Z15 HR0); exact HC0.out; rintro e m8 ⟨rfl, hb⟩; refine ⟨_, rfl, ?_⟩; refine k1_ (below_step (Z2) hb) ?_; clear HB; intro HB; (try clear hb)) | (go_at_call 29; (with_reducible refine (spec_puAcross.calls a3 true _ A8.out).mono ?_); rintro e w' ⟨rfl, ⟨nd, rfl⟩⟩) | (go_at_call 30; (with_reducible refine (spec_l1In.calls a1 0 (wrap64 ((l0.length : Int) - 1)) true _ Db.out).mono ?_); rintro e w' ⟨rfl, ⟨nd, rfl⟩⟩) | (go_at_call 30; (with_reducible refine (spec_l1In.calls a2 0 (wrap64 ((l0.length : Int) - 1)) rG _ AB.out).mono ?_); rintro e w' ⟨rfl, ⟨nd, rfl⟩⟩))
     go_meet
     case rel => exact ⟨_, (!rG), (Z16), H', ⟨Z68⟩, ⟨Z2⟩⟩
    replace c11 := Bool.eq_false_iff.mpr c11
    subst c11
    rw [if_neg (show ¬ (false = true) by decide)] at H
    have H' := Aside0.mk H
    clear H
    go_wp2_with (first | ((with_reducible refine gate_callee (f := 28) rfl ?_); refine gl_ 12 Tryz.func28 #[.slice A0 l0.length c0] ?_; (with_reducible refine (spec_puGood.calls k _ _ l0 true _ ?_ ?_ A6.out).mono ?_); exact (Z15 HR0); exact HC0.out; rintro e vE ⟨rfl, hb⟩; refine ⟨_, rfl, ?_⟩; refine k1_ (below_step (Z2) hb) ?_; clear HB; intro HB; (try clear hb)) | (go_at_call 29; (with_reducible refine (spec_puAcross.calls a3 true _ A8.out).mono ?_); rintro e w' ⟨rfl, ⟨nd, rfl⟩⟩) | (go_at_call 30; (with_reducible refine (spec_l1In.calls a1 0 (wrap64 ((l0.length : Int) - 1)) false _ Db.out).mono ?_); rintro e w' ⟨rfl, ⟨nd, rfl⟩⟩))
    go_meet
    case rel => exact ⟨_, (true), (Z16), H', ⟨Z68⟩, ⟨Z2⟩⟩
   replace c9 := Bool.eq_false_iff.mpr c9
   subst c9
   rw [if_neg (show ¬ (false = true) by decide)] at H
   have H' := Aside0.mk H
   clear H
   go_wp2_with (first | ((with_reducible refine gate_callee (f := 28) rfl ?_); refine gl_ 12 Tryz.func28 #[.slice A0 l0.length c0] ?_; (with_reducible refine (spec_puGood.calls k _ _ l0 true _ ?_ ?_ A6.out).mono ?_); exact (Z15 HR0); exact HC0.out; rintro e l8 ⟨rfl, hb⟩; refine ⟨_, rfl, ?_⟩; refine k1_ (below_step (Z2) hb) ?_; clear HB; intro HB; (try clear hb)) | (go_at_call 29; (with_reducible refine (spec_puAcross.calls a3 false _ A8.out).mono ?_); rintro e w' ⟨rfl, ⟨nd, rfl⟩⟩))
   go_meet
   case rel => exact ⟨_, (true), (Z16), H', ⟨Z68⟩, ⟨Z2⟩⟩
  replace c7 := Bool.eq_false_iff.mpr c7
  subst c7
  rw [if_neg (show ¬ (false = true) by decide)] at H
  have H' := Aside0.mk H
  clear H
  go_wp2_with (first | ((with_reducible refine gate_callee (f := 28) rfl ?_); refine gl_ 12 Tryz.func28 #[.slice A0 l0.length c0] ?_; (with_reducible refine (spec_puGood.calls k _ _ l0 false _ ?_ ?_ A6.out).mono ?_); exact (Z15 HR0); exact HC0.out; rintro e pw ⟨rfl, hb⟩; refine ⟨_, rfl, ?_⟩; refine k1_ (below_step (Z2) hb) ?_; clear HB; intro HB; (try clear hb)))
  go_meet
  case rel => exact ⟨_, (true), (Z16), H', ⟨Z68⟩, ⟨Z2⟩⟩
 case rest =>
  clear HC5
  (try clear c1); (try clear c2); (try clear p2); (try clear p6); (try clear c7); (try clear c9); (try clear c11)
  obtain ⟨kq, qP, rfl, HA, AA, HB⟩ := hcut
  cases kq with
  | zero => exact absurd HA.out (by simp [spec_SwapGain.j0])
  | succ lB =>
   have H := HA.out
   clear HA
   simp only [spec_SwapGain.j0] at H
   by_cases c17 : qP = true
   ·subst c17
    rw [if_pos rfl] at H
    simp only [Option.some.injEq, Prod.mk.injEq] at H
    obtain ⟨rfl, rfl⟩ := H
    go_wp2
    go_ret2
    exact ⟨Z12, Z2⟩
   replace c17 := Bool.eq_false_iff.mpr c17
   subst c17
   rw [if_neg (show ¬ (false = true) by decide)] at H
   obtain ⟨ni, nk⟩ : ∃ y_ : List (S30), y_ = (([] : List (S30))) := ⟨_, rfl⟩
   replace H : (if ni.length + l0.length < 8796093022208 then ((some (ni ++ l0 : List (S30))).bind fun cZ => (if 0 ≤ a2 then (if a2 < (l0.length : Int) then (if 0 ≤ a1 then (if a1 < (cZ.length : Int) then (if a1 < (l0.length : Int) then (if a2 < (cZ.length : Int) then ((spec_puSum.f lB l0 a3).bind fun jy => ((spec_puSum.f lB ((cZ.set (a1 : Int).toNat (⟨(rd_T30 l0 a2).f0, (rd_T30 l0 a2).f1⟩ : S30)).set (a2 : Int).toNat (⟨(rd_T30 l0 a1).f0, (rd_T30 l0 a1).f1⟩ : S30)) a3).bind fun jz => (some (wrap64 (jy - jz), true)))) else (none)) else (none)) else (none)) else (none)) else (none)) else (none))) else (none)) = some (r1, r2) := by first | (rw [nk]; with_reducible exact H) | (have H2_ := (Option.bind_some _ _).symm.trans H; rw [nk]; with_reducible exact H2_) | (have H2_ := (Option.bind_some _ _).symm.trans H; with_reducible exact H2_) | with_reducible exact H | (rw [nk]; exact H) | exact H
   have wM := Aside0.mk nk
   clear nk
   by_cases c18 : ni.length + l0.length < 8796093022208
   ·rw [if_pos c18] at H
    have nl := Aside0.mk c18
    clear c18
    obtain ⟨cZ, nm⟩ : ∃ y_ : List (S30), y_ = (ni ++ l0) := ⟨_, rfl⟩
    replace H : (if 0 ≤ a2 then (if a2 < (l0.length : Int) then (if 0 ≤ a1 then (if a1 < (cZ.length : Int) then (if a1 < (l0.length : Int) then (if a2 < (cZ.length : Int) then ((spec_puSum.f lB l0 a3).bind fun jy => ((spec_puSum.f lB ((cZ.set (a1 : Int).toNat (⟨(rd_T30 l0 a2).f0, (rd_T30 l0 a2).f1⟩ : S30)).set (a2 : Int).toNat (⟨(rd_T30 l0 a1).f0, (rd_T30 l0 a1).f1⟩ : S30)) a3).bind fun jz => (some (wrap64 (jy - jz), true)))) else (none)) else (none)) else (none)) else (none)) else (none)) else (none)) = some (r1, r2) := by first | (rw [nm]; with_reducible exact H) | (have H2_ := (Option.bind_some _ _).symm.trans H; rw [nm]; with_reducible exact H2_) | (have H2_ := (Option.bind_some _ _).symm.trans H; with_reducible exact H2_) | with_reducible exact H | (rw [nm]; exact H) | exact H
    have Ny503 := Aside0.mk nm
    clear nm
    by_cases c19 : 0 ≤ a2
    ·rw [if_pos c19] at H
     have jA : decide (0 ≤ a2) = true := decide_eq_true c19
     clear c19
     by_cases c20 : a2 < (l0.length : Int)
     ·rw [if_pos c20] at H
      have ea : decide (a2 < (l0.length : Int)) = true := decide_eq_true c20
      clear c20
      by_cases c21 : 0 ≤ a1
      ·rw [if_pos c21] at H
       have iF : decide (0 ≤ a1) = true := decide_eq_true c21
       clear c21
       by_cases c22 : a1 < (cZ.length : Int)
       ·rw [if_pos c22] at H
        have m9 : decide (a1 < (cZ.length : Int)) = true := decide_eq_true c22
        clear c22
        obtain ⟨rH, nn⟩ : ∃ y_ : List (S30), y_ = (cZ.set (a1 : Int).toNat (⟨(rd_T30 l0 a2).f0, (rd_T30 l0 a2).f1⟩ : S30)) := ⟨_, rfl⟩
        replace H : (if a1 < (l0.length : Int) then (if a2 < (cZ.length : Int) then ((spec_puSum.f lB l0 a3).bind fun jy => ((spec_puSum.f lB (rH.set (a2 : Int).toNat (⟨(rd_T30 l0 a1).f0, (rd_T30 l0 a1).f1⟩ : S30)) a3).bind fun jz => (some (wrap64 (jy - jz), true)))) else (none)) else (none)) = some (r1, r2) := by first | (rw [nn]; with_reducible exact H) | (have H2_ := (Option.bind_some _ _).symm.trans H; rw [nn]; with_reducible exact H2_) | (have H2_ := (Option.bind_some _ _).symm.trans H; with_reducible exact H2_) | with_reducible exact H | (rw [nn]; exact H) | exact H
        have Ny507 := Aside0.mk nn
        clear nn
        by_cases c24 : a1 < (l0.length : Int)
        ·rw [if_pos c24] at H
         have qN : decide (a1 < (l0.length : Int)) = true := decide_eq_true c24
         clear c24
         by_cases c25 : a2 < (cZ.length : Int)
         ·rw [if_pos c25] at H
          have wN : decide (a2 < (cZ.length : Int)) = true := decide_eq_true c25
          clear c25
          obtain ⟨rI, np⟩ : ∃ y_ : List (S30), y_ = (rH.set (a2 : Int).toNat (⟨(rd_T30 l0 a1).f0, (rd_T30 l0 a1).f1⟩ : S30)) := ⟨_, rfl⟩
          replace H : ((spec_puSum.f lB l0 a3).bind fun jy => ((spec_puSum.f lB rI a3).bind fun jz => (some (wrap64 (jy - jz), true)))) = some (r1, r2) := by first | (rw [np]; with_reducible exact H) | (have H2_ := (Option.bind_some _ _).symm.trans H; rw [np]; with_reducible exact H2_) | (have H2_ := (Option.bind_some _ _).symm.trans H; with_reducible exact H2_) | with_reducible exact H | (rw [np]; exact H) | exact H
          have Ny509 := Aside0.mk np
          clear np
          replace H := Option.bind_eq_some_iff.mp H
          obtain ⟨jy, nc, H⟩ := H
          (try dsimp only at H)
          have gS := Aside0.mk nc
          clear nc
          replace H := Option.bind_eq_some_iff.mp H
          obtain ⟨jz, gV, H⟩ := H
          (try dsimp only at H)
          have gW := Aside0.mk gV
          clear gV
          simp only [Option.some.injEq, Prod.mk.injEq] at H
          obtain ⟨rfl, rfl⟩ := H
          go_wp2_with (first | ((with_reducible refine gate_dst (N := 35) rfl ?_); (try (refine gate_guard (by rfl) ?_; dsimp only)); refine Kd.R_lit k30 _ 30 ?hg (N := 35) ?hd (xs := ([] : List (S30))) (inner := []) (ok := fun _ => True) (okp := fun _ => True) ?hr ?hp (fun _ hk => hk) trivial (Below.refl _ _) (Nat.le_refl _) (by simp) ?_; (case hd => rfl); (case hg => rfl); (case hr => exact Z29); (case hp => exact (Reps.none _ _)); intro v501 DQ ho30 hb hg_ hnew_; clear hg_ hnew_; (first | rw [← wM.out] at ho30 | (simp only [Int.reduceToNat] at ho30; rw [← wM.out] at ho30)); refine k2_ (Kd.R_lower ho30 (below_size (Z2))) (below_step (Z2) hb) ?_; clear HB; intro wO HB; clear hb ho30) | ((with_reducible refine gate_builtin (b := .append) (xs := #[.tmp 35, .tmp 36]) rfl ?_); (try (refine gate_guard (by rfl) ?_; dsimp only)); at_builtin; refine Kd.R_append_rows k30 (w0 := w) w.heap.size rfl (.tmp 35) (.tmp 36) 24 30 (.agg #[(.int .i64 0), (.int .i64 0)]) 16 rfl Tryz.underlying24 info30 rfl (by decide) (by omega) v501 ni l0 _ _ _ (fun _ => True) (fun _ => False) rfl rfl ?aO ?aR (fun _ _ h => h) (fun _ h => h.elim) ?aF ?aB ?aS ?aL ?_; (case aR => exact Z15 HR0); (case aB => exact Z2); (case aF => exact (fun _ _ => trivial)); (case aO => exact (Z1 wO)); (case aS => exact (below_size (Z2))); (case aL => exact Z76 nl); intro v504 vz ho hb hg hat; rw [← Ny503.out] at ho; refine k2_ (hb) (ho) ?_; clear HB wO; intro HB cP; clear ho hb hg hat; have yw : 0 ≤ (a2 : Int) := of_decide_eq_true (Z4); have yx : a2 < (l0.length : Int) := of_decide_eq_true (Z4); obtain ⟨wP, e506, mt, mu⟩ := at_T30 HR0.out a2 yw yx; cases e506; replace mt := (HB.out.cell (World.block_lt_of_cell? w _ mt)).trans mt; replace mu := (HB.out.cell (World.block_lt_of_cell? w _ mu)).trans mu; replace yw := eq_true yw; replace yx := eq_true yx; have Ds : 0 ≤ (a1 : Int) := of_decide_eq_true (Z4); have Dt : (a1 : Int) < ((cZ.length : Int) : Int) := of_decide_eq_true (Z4); obtain ⟨go23, pE, vF, AL, gl23, cl23, HG23⟩ := Kd.R_form cP.out (by omega); (first | cases vF | (injection vF with ea_ en_ ec_; (first | subst ea_ | (injection ea_ with ea_; subst ea_)); subst ec_; clear en_)); have GB23 := Aside0.mk AL; have GG23 := Aside0.mk HG23; clear AL gl23 HG23; obtain ⟨ce23, hcl23, hM23, hcc23, hfr23⟩ := Kd.R_elem cP.out z30 (a1 : Int) Ds Dt; obtain rfl := k30_openM hM23; have hx23_0 : vz.cell? ⟨go23, (a1 : Int).toNat * 2, none⟩ = some (.int .i64 ((rd_T30 cZ a1).f0)) := hcc23 0 _ rfl; have hx23_1 : vz.cell? ⟨go23, (a1 : Int).toNat * 2 + 1, none⟩ = some (.int .i64 ((rd_T30 cZ a1).f1)) := hcc23 1 _ rfl; have hf23_0 : vz.frozen? ⟨go23, (a1 : Int).toNat * 2, none⟩ = false := hfr23 0; have hf23_1 : vz.frozen? ⟨go23, (a1 : Int).toNat * 2 + 1, none⟩ = false := hfr23 1; clear hcl23 hcc23 hfr23 hM23; replace Ds := eq_true Ds; replace Dt := eq_true Dt; have HX32 := Aside0.mk (show Kd.R k30 30 vz w.heap.size (fun _ => True) (.slice (some ⟨go23, 0, none⟩) cZ.length pE) cZ from (Z1 cP)); obtain ⟨ce32, hcl32, hM32, hcc32, hfr32⟩ := Kd.R_elem HX32.out z30 (a1 : Int) (of_decide_eq_true (Z4)) (Z144); obtain rfl := k30_openM hM32; have HP32 := Kd.R_seg HX32.out (a1 : Int) (of_decide_eq_true (Z4)) (Z144) (seg := [.int .i64 ((rd_T30 l0 a2).f0), .int .i64 ((rd_T30 l0 a2).f1)]) (j := 0) hcl32 hcc32 (show 2 ≤ 2 from by decide) (x' := (⟨(rd_T30 l0 a2).f0, (rd_T30 l0 a2).f1⟩ : S30)) (k30_mkM _ _ _ (⟨(rd_T30 l0 a2).f0, (rd_T30 l0 a2).f1⟩ : S30) ) (fun _ hk => hk); have hx32_0 := hcc32 0 _ rfl; (try simp only [show (k30).sz = 2 from rfl, Nat.mul_one, Nat.add_zero] at hx32_0); have hf32_0 := hfr32 0; (try simp only [show (k30).sz = 2 from rfl, Nat.mul_one, Nat.add_zero] at hf32_0); have hx32_1 := hcc32 1 _ rfl; (try simp only [show (k30).sz = 2 from rfl, Nat.mul_one, Nat.add_zero] at hx32_1); have hf32_1 := hfr32 1; (try simp only [show (k30).sz = 2 from rfl, Nat.mul_one, Nat.add_zero] at hf32_1); clear hcl32 hcc32 hfr32 hM32) | ((with_reducible refine gate_store (t := 30) (p := 44) rfl ?_); refine store_event (t := 30) (p := 44) (v := ?vo_w33) (w1 := ((vz.setCell ⟨go23, (a1 : Int).toNat * 2, none⟩ (.int .i64 ((rd_T30 l0 a2).f0))).setCell ⟨go23, (a1 : Int).toNat * 2 + 1, none⟩ (.int .i64 ((rd_T30 l0 a2).f1)))) ?hg ?ho ?hn ?hr ?_; (case ho => rfl); (case hg => rfl); (case hn => rfl); (case hr => exact Z29); intro ir hw; have hg : vz.grownBy ir (some go23) := (by rw [hw]; exact HP32.2); have hp_ : Kd.R k30 30 ir w.heap.size (fun _ => True) (.slice (some ⟨go23, 0, none⟩) cZ.length pE) rH := (by rw [hw, Ny507.out]; exact HP32.1); clear HP32; refine k2_ (hp_) ((by rw [hw]; exact below_set (below_set (HB.out) GB23.out) GB23.out : Below w.heap.size w ir)) ?_; clear cP HB; intro cP HB; clear hg hw hp_; have yy : 0 ≤ (a1 : Int) := of_decide_eq_true (Z4); have yz : a1 < (l0.length : Int) := of_decide_eq_true (Z4); obtain ⟨ad508, e508, mv, mw⟩ := at_T30 HR0.out a1 yy yz; obtain rfl : wP = ad508 := (by injection e508); replace mv := (HB.out.cell (World.block_lt_of_cell? w _ mv)).trans mv; replace mw := (HB.out.cell (World.block_lt_of_cell? w _ mw)).trans mw; replace yy := eq_true yy; replace yz := eq_true yz; have wJ : 0 ≤ (a2 : Int) := of_decide_eq_true (Z4); have su : (a2 : Int) < ((cZ.length : Int) : Int) := of_decide_eq_true (Z4); obtain ⟨ce26, hcl26, hM26, hcc26, hfr26⟩ := Kd.R_elem cP.out z30 (a2 : Int) wJ su; obtain rfl := k30_openM hM26; have sM : ir.cell? ⟨go23, (a2 : Int).toNat * 2, none⟩ = some (.int .i64 ((rd_T30 rH a2).f0)) := hcc26 0 _ rfl; have sN : ir.cell? ⟨go23, (a2 : Int).toNat * 2 + 1, none⟩ = some (.int .i64 ((rd_T30 rH a2).f1)) := hcc26 1 _ rfl; have hf26_0 : ir.frozen? ⟨go23, (a2 : Int).toNat * 2, none⟩ = false := hfr26 0; have hf26_1 : ir.frozen? ⟨go23, (a2 : Int).toNat * 2 + 1, none⟩ = false := hfr26 1; clear hcl26 hcc26 hfr26 hM26; replace wJ := eq_true wJ; replace su := eq_true su; have HX34 := Aside0.mk (show Kd.R k30 30 ir w.heap.size (fun _ => True) (.slice (some ⟨go23, 0, none⟩) cZ.length pE) rH from (Z1 cP)); obtain ⟨ce34, hcl34, hM34, hcc34, hfr34⟩ := Kd.R_elem HX34.out z30 (a2 : Int) (of_decide_eq_true (Z4)) (Z145); obtain rfl := k30_openM hM34; have HP34 := Kd.R_seg HX34.out (a2 : Int) (of_decide_eq_true (Z4)) (Z145) (seg := [.int .i64 ((rd_T30 l0 a1).f0), .int .i64 ((rd_T30 l0 a1).f1)]) (j := 0) hcl34 hcc34 (show 2 ≤ 2 from by decide) (x' := (⟨(rd_T30 l0 a1).f0, (rd_T30 l0 a1).f1⟩ : S30)) (k30_mkM _ _ _ (⟨(rd_T30 l0 a1).f0, (rd_T30 l0 a1).f1⟩ : S30) ) (fun _ hk => hk); have hx34_0 := hcc34 0 _ rfl; (try simp only [show (k30).sz = 2 from rfl, Nat.mul_one, Nat.add_zero] at hx34_0); have hf34_0 := hfr34 0; (try simp only [show (k30).sz = 2 from rfl, Nat.mul_one, Nat.add_zero] at hf34_0); have hx34_1 := hcc34 1 _ rfl; (try simp only [show (k30).sz = 2 from rfl, Nat.mul_one, Nat.add_zero] at hx34_1); have hf34_1 := hfr34 1; (try simp only [show (k30).sz = 2 from rfl, Nat.mul_one, Nat.add_zero] at hf34_1); clear hcl34 hcc34 hfr34 hM34) | ((with_reducible refine gate_store (t := 30) (p := 51) rfl ?_); refine store_event (t := 30) (p := 51) (v := ?vo_w35) (w1 := ((ir.setCell ⟨go23, (a2 : Int).toNat * 2, none⟩ (.int .i64 ((rd_T30 l0 a1).f0))).setCell ⟨go23, (a2 : Int).toNat * 2 + 1, none⟩ (.int .i64 ((rd_T30 l0 a1).f1)))) ?hg ?ho ?hn ?hr ?_; (case ho => rfl); (case hg => rfl); (case hn => rfl); (case hr => exact Z29); intro qO hw; have hg : ir.grownBy qO (some go23) := (by rw [hw]; exact HP34.2); have hp_ : Kd.R k30 30 qO w.heap.size (fun _ => True) (.slice (some ⟨go23, 0, none⟩) cZ.length pE) rI := (by rw [hw, Ny509.out]; exact HP34.1); clear HP34; refine k2_ (hp_) ((by rw [hw]; exact below_set (below_set (HB.out) GB23.out) GB23.out : Below w.heap.size w qO)) ?_; clear cP HB; intro cP HB; clear hg hw hp_) | ((with_reducible refine gate_callee (f := 31) rfl ?_); refine gl_ 54 Tryz.func31 #[.slice (some wP) l0.length c0, .int .i64 a3] ?_; (with_reducible refine (spec_puSum.calls lB _ _ l0 a3 jy _ ?_ ?_ gS.out).mono ?_); exact (Z15 HR0); exact HC0.out; rintro e eF ⟨rfl, hb⟩; refine ⟨_, rfl, ?_⟩; refine k2_ (Ya_ cP) (below_step (Z2) hb) ?_; clear cP HB; intro cP HB; (try clear hb)) | ((with_reducible refine gate_callee (f := 31) rfl ?_); refine goesL_ (some 57) rfl rfl Tryz.func31 (by kernel_rfl) rfl #[.slice (some ⟨go23, 0, none⟩) rI.length pE, .int .i64 a3] rfl (by (try simp only [List.map_toArray, List.map_cons, List.map_nil]); first | done | (rw [show rI.length = cZ.length from (Kd.R_reads' cP.out).1.symm] <;> rfl) | rfl | (simp only [List.length_drop, List.length_take]; rfl)) ?_; (with_reducible refine (spec_puSum.calls lB _ _ rI a3 jz _ ?_ ?_ gW.out).mono ?_); exact (Z5 cP); exact (by rw [show rI.length = cZ.length from (Kd.R_reads' cP.out).1.symm]; exact (Kd.R_reads' cP.out).2.1); rintro e AM ⟨rfl, hb⟩; refine ⟨_, rfl, ?_⟩; refine k2_ (Ya_ cP) (below_step (Z2) hb) ?_; clear cP HB; intro cP HB; (try clear hb)))
          go_ret2
          exact ⟨Z12, Z2⟩
         rw [if_neg c25] at H
         exact absurd H (by simp)
        rw [if_neg c24] at H
        exact absurd H (by simp)
       rw [if_neg c22] at H
       exact absurd H (by simp)
      rw [if_neg c21] at H
      exact absurd H (by simp)
     rw [if_neg c20] at H
     exact absurd H (by simp)
    rw [if_neg c19] at H
    exact absurd H (by simp)
   rw [if_neg c18] at H
   exact absurd H (by simp)

/-! ### impl_WayOfHead: function 8 -/
def impl_WayOfHead.f (k : Nat) (l0 : List (S30)) (a1 : Int) : Option (Int × Bool) := (impl_AreStrokes.f k l0).bind fun sV => (if sV = true then ((impl_isAcross.f a1).bind fun sW => (if sW = true then ((impl_wayOfHead.f k l0 a1).bind fun rJ => (some (rJ, true))) else (some (0, false)))) else (some (0, false)))
theorem impl_WayOfHead.mono : ∀ a0 a1 k, LeO (impl_WayOfHead.f k a0 a1) (impl_WayOfHead.f (k + 1) a0 a1) := by
 intro a0 a1 k
 unfold impl_WayOfHead.f
 exact mo11_
set_option maxHeartbeats 8000000 in
set_option maxRecDepth 100000 in
theorem impl_WayOfHead.calls (k : Nat) (A0 : Option Addr) (c0 : Nat) (l0 : List (S30)) (a1 : Int) (r1 : Int) (r2 : Bool) (w : World) (hr0 : Kd.C k30 w A0 l0.length l0) (hc0 : l0.length ≤ c0) (h : impl_WayOfHead.f k l0 a1 = some (r1, r2)) :
  Calls Tryz.prog 8 #[.slice A0 l0.length c0, .int .i64 a1] w fun e w' => e = .returned (.tuple #[.int .i64 r1, .bool r2]) ∧ Below w.heap.size w w' := by
 have HR0 := Aside0.mk hr0
 have HC0 := Aside0.mk hc0
 clear hr0 hc0
 have HB := Aside0.mk (Below.refl w.heap.size w)
 have H : ((impl_AreStrokes.f k l0).bind fun sV => (if sV = true then ((impl_isAcross.f a1).bind fun sW => (if sW = true then ((impl_wayOfHead.f k l0 a1).bind fun rJ => (some (rJ, true))) else (some (0, false)))) else (some (0, false)))) = some (r1, r2) := h
 clear h
 replace H := Option.bind_eq_some_iff.mp H
 obtain ⟨sV, fN, H⟩ := H
 (try dsimp only at H)
 have A3 := Aside0.mk fN
 clear fN
 by_cases c4 : sV = true
 ·subst c4
  rw [if_pos rfl] at H
  replace H := Option.bind_eq_some_iff.mp H
  obtain ⟨sW, fM, H⟩ := H
  (try dsimp only at H)
  have A5 := Aside0.mk fM
  clear fM
  by_cases c6 : sW = true
  ·subst c6
   rw [if_pos rfl] at H
   replace H := Option.bind_eq_some_iff.mp H
   obtain ⟨rJ, nq, H⟩ := H
   replace H : (some (rJ, true)) = some (r1, r2) := H
   have A7 := Aside0.mk nq
   clear nq
   simp only [Option.some.injEq, Prod.mk.injEq] at H
   obtain ⟨rfl, rfl⟩ := H
   go_enter Tryz.func8, Tryz.ntmps8
   go_wp2_with (first | ((with_reducible refine gate_callee (f := 24) rfl ?_); refine gl_ 7 Tryz.func24 #[.slice A0 l0.length c0] ?_; (with_reducible refine (impl_AreStrokes.calls k _ _ l0 true _ ?_ ?_ A3.out).mono ?_); exact (Z18 HR0); exact HC0.out; rintro e w8 ⟨rfl, hb⟩; refine ⟨_, rfl, ?_⟩; refine k1_ (below_step (Z2) hb) ?_; clear HB; intro HB; (try clear hb)) | (go_at_call 25; (with_reducible refine (impl_isAcross.calls a1 true _ A5.out).mono ?_); rintro e w' ⟨rfl, ⟨nd, rfl⟩⟩) | ((with_reducible refine gate_callee (f := 27) rfl ?_); refine gl_ 16 Tryz.func27 #[.slice A0 l0.length c0, .int .i64 a1] ?_; (with_reducible refine (impl_wayOfHead.calls k _ _ l0 a1 rJ _ ?_ ?_ A7.out).mono ?_); exact Z132; exact HC0.out; rintro e w9 ⟨rfl, hb⟩; refine ⟨_, rfl, ?_⟩; refine k1_ (below_step (Z2) hb) ?_; clear HB; intro HB; (try clear hb)))
   go_ret2
   exact ⟨Z12, Z2⟩
  replace c6 := Bool.eq_false_iff.mpr c6
  subst c6
  rw [if_neg (show ¬ (false = true) by decide)] at H
  simp only [Option.some.injEq, Prod.mk.injEq] at H
  obtain ⟨rfl, rfl⟩ := H
  go_enter Tryz.func8, Tryz.ntmps8
  go_wp2_with (first | ((with_reducible refine gate_callee (f := 24) rfl ?_); refine gl_ 7 Tryz.func24 #[.slice A0 l0.length c0] ?_; (with_reducible refine (impl_AreStrokes.calls k _ _ l0 true _ ?_ ?_ A3.out).mono ?_); exact (Z18 HR0); exact HC0.out; rintro e ng ⟨rfl, hb⟩; refine ⟨_, rfl, ?_⟩; refine k1_ (below_step (Z2) hb) ?_; clear HB; intro HB; (try clear hb)) | (go_at_call 25; (with_reducible refine (impl_isAcross.calls a1 false _ A5.out).mono ?_); rintro e w' ⟨rfl, ⟨nd, rfl⟩⟩))
  go_ret2
  exact ⟨Z12, Z2⟩
 replace c4 := Bool.eq_false_iff.mpr c4
 subst c4
 rw [if_neg (show ¬ (false = true) by decide)] at H
 simp only [Option.some.injEq, Prod.mk.injEq] at H
 obtain ⟨rfl, rfl⟩ := H
 go_enter Tryz.func8, Tryz.ntmps8
 go_wp2_with (first | ((with_reducible refine gate_callee (f := 24) rfl ?_); refine gl_ 7 Tryz.func24 #[.slice A0 l0.length c0] ?_; (with_reducible refine (impl_AreStrokes.calls k _ _ l0 false _ ?_ ?_ A3.out).mono ?_); exact (Z18 HR0); exact HC0.out; rintro e lA ⟨rfl, hb⟩; refine ⟨_, rfl, ?_⟩; refine k1_ (below_step (Z2) hb) ?_; clear HB; intro HB; (try clear hb)))
 go_ret2
 exact ⟨Z12, Z2⟩

/-! ### spec_l1Cur_tools: function 48 -/
def spec_l1Cur_tools.f (s0_0 : List Int) (s0_1 : Int) (s0_2 : Int) : Option (Int × Int × Int) := (spec_l1Cur_among.f s0_0 s0_1 s0_2 (([0, 6] : List Int))).bind fun fY => ((spec_l1Cur_among.f s0_0 fY.2.1 fY.2.2 (([1, 2, 3, 5, fY.1] : List Int))).bind fun ei => (some (ei.1, ei.2.1, ei.2.2)))
set_option maxHeartbeats 8000000 in
set_option maxRecDepth 100000 in
theorem spec_l1Cur_tools.calls (g : Nat) (s0_0 : List Int) (s0_1 : Int) (s0_2 : Int) (r1 : Int) (r2 : Int) (r3 : Int) (w0 w : World) (hI : IsS45 w0 w g s0_0 s0_1 s0_2) (hB : Below w0.heap.size w0 w) (h : spec_l1Cur_tools.f s0_0 s0_1 s0_2 = some (r1, r2, r3)) :
  Calls Tryz.prog 48 #[.pointer (some ⟨g, 0, none⟩)] w fun e w' => e = .returned (.int .i64 r1) ∧ IsS45 w0 w' g s0_0 r2 r3 ∧ Below w0.heap.size w0 w' ∧ KeepBut w w' g none := by
 have HI0 := Aside0.mk hI
 have HK := Aside0.mk (KeepBut.refl w g none)
 have HL := Aside0.mk hB.size
 clear hI
 have HW0 := Aside0.mk hB.size
 have HB := Aside0.mk hB
 clear hB
 have H : ((spec_l1Cur_among.f s0_0 s0_1 s0_2 (([0, 6] : List Int))).bind fun fY => ((spec_l1Cur_among.f s0_0 fY.2.1 fY.2.2 (([1, 2, 3, 5, fY.1] : List Int))).bind fun ei => (some (ei.1, ei.2.1, ei.2.2)))) = some (r1, r2, r3) := h
 clear h
 obtain ⟨yA, nr⟩ : ∃ y_ : List Int, y_ = (([0, 6] : List Int)) := ⟨_, rfl⟩
 replace H : ((spec_l1Cur_among.f s0_0 s0_1 s0_2 yA).bind fun fY => ((spec_l1Cur_among.f s0_0 fY.2.1 fY.2.2 (([1, 2, 3, 5, fY.1] : List Int))).bind fun ei => (some (ei.1, ei.2.1, ei.2.2)))) = some (r1, r2, r3) := by first | (rw [nr]; with_reducible exact H) | (have H2_ := (Option.bind_some _ _).symm.trans H; rw [nr]; with_reducible exact H2_) | (have H2_ := (Option.bind_some _ _).symm.trans H; with_reducible exact H2_) | with_reducible exact H | (rw [nr]; exact H) | exact H
 have wQ := Aside0.mk nr
 clear nr
 replace H := Option.bind_eq_some_iff.mp H
 obtain ⟨⟨rK, sX, sY⟩, cK, H⟩ := H
 (try dsimp only at H)
 have A2 := Aside0.mk cK
 clear cK
 obtain ⟨yB, nt⟩ : ∃ y_ : List Int, y_ = (([1, 2, 3, 5, rK] : List Int)) := ⟨_, rfl⟩
 replace H : ((spec_l1Cur_among.f s0_0 sX sY yB).bind fun ei => (some (ei.1, ei.2.1, ei.2.2))) = some (r1, r2, r3) := by first | (rw [nt]; with_reducible exact H) | (have H2_ := (Option.bind_some _ _).symm.trans H; rw [nt]; with_reducible exact H2_) | (have H2_ := (Option.bind_some _ _).symm.trans H; with_reducible exact H2_) | with_reducible exact H | (rw [nt]; exact H) | exact H
 have wS := Aside0.mk nt
 clear nt
 replace H := Option.bind_eq_some_iff.mp H
 obtain ⟨⟨t524, t525, t526⟩, fN, H⟩ := H
 (try dsimp only at H)
 have A3 := Aside0.mk fN
 clear fN
 simp only [Option.some.injEq, Prod.mk.injEq] at H
 obtain ⟨rfl, rfl, rfl⟩ := H
 go_enter Tryz.func48, Tryz.ntmps48
 go_wp2_with (first | ((with_reducible refine gate_dst (N := 5) rfl ?_); refine Kd.R_lit (Kd.int .i64) _ 3 ?hg (N := 5) ?hd (xs := ([0, 6] : List Int)) (inner := [.int .i64 0, .int .i64 6]) (ok := fun _ => True) (okp := fun _ => True) ?hr ?hp (fun _ hk => hk) trivial (Below.refl _ _) (Nat.le_refl _) (by simp) ?_; (case hd => rfl); (case hg => rfl); (case hr => exact Z29); (case hp => exact (Reps.one (show Kd.M (Kd.int .i64) _ _ _ 0 [.int .i64 0] from rfl) (Reps.one (show Kd.M (Kd.int .i64) _ _ _ 6 [.int .i64 6] from rfl) (Reps.none _ _)))); intro v516 w4 ho5 hb hg_ hnew_; clear hg_ hnew_; (first | rw [← wQ.out] at ho5 | (simp only [Int.reduceToNat] at ho5; rw [← wQ.out] at ho5)); refine k4_ (Kd.R_lower ho5 (keep_size (w := w) (g := g) (row := none) (Z7))) (IsS45.below (Z3 HI0) hb) (KeepBut.trans (Z7) (KeepBut.of_below hb g none) (.inl rfl)) (below_step (Z8) hb) ?_; clear HI0 HK HB; intro eG HI0 HK HB; clear hb ho5; obtain ⟨AN, AO, AP⟩ := Kd.R_slice eG.out; subst AP) | ((with_reducible refine gate_callee (f := 42) rfl ?_); refine gl_ 6 Tryz.func42 #[.pointer (some ⟨g, 0, none⟩), .slice AN yA.length AO] ?_; (with_reducible refine (spec_l1Cur_among.calls g s0_0 s0_1 s0_2 _ _ yA rK sX sY w0 _ ?_ ?_ ?_ ?_ ?_ A2.out).mono ?_); exact (Z3 HI0); exact Z8; exact (Z5 eG); exact (Kd.R_reads' eG.out).2.1; exact far_slice (IsS45.own_ne HI0.out eG.out (by decide)); rintro e w7 ⟨rfl, hi, hb, hk⟩; refine ⟨_, rfl, ?_⟩; refine k4_ (Kd.R_mono (Kd.R_keep (IsS45.apart (show IsS45 w0 _ g s0_0 s0_1 s0_2 from Z3 HI0) (Z1 eG) (by decide)) hk (fun _ h => h.2)) (fun _ h => h.1)) (KeepBut.trans (Z7) hk (.inl rfl)) (hb) (hi) ?_; clear eG HK HB HI0; intro eG HK HB HI0; (try clear hb hk hi)) | ((with_reducible refine gate_dst (N := 7) rfl ?_); refine Kd.R_lit (Kd.int .i64) _ 3 ?hg (N := 7) ?hd (xs := ([1, 2, 3, 5, rK] : List Int)) (inner := [.int .i64 1, .int .i64 2, .int .i64 3, .int .i64 5, .int .i64 rK]) (ok := fun _ => True) (okp := fun _ => True) ?hr ?hp (fun _ hk => hk) trivial (Below.refl _ _) (Nat.le_refl _) (by simp) ?_; (case hd => rfl); (case hg => rfl); (case hr => exact Z29); (case hp => exact (Reps.one (show Kd.M (Kd.int .i64) _ _ _ 1 [.int .i64 1] from rfl) (Reps.one (show Kd.M (Kd.int .i64) _ _ _ 2 [.int .i64 2] from rfl) (Reps.one (show Kd.M (Kd.int .i64) _ _ _ 3 [.int .i64 3] from rfl) (Reps.one (show Kd.M (Kd.int .i64) _ _ _ 5 [.int .i64 5] from rfl) (Reps.one (show Kd.M (Kd.int .i64) _ _ _ rK [.int .i64 rK] from rfl) (Reps.none _ _))))))); intro v522 w8 ho9 hb hg_ hnew_; clear hg_ hnew_; (first | rw [← wS.out] at ho9 | (simp only [Int.reduceToNat] at ho9; rw [← wS.out] at ho9)); refine k5_ (Kd.R_elder' (Z1 eG) (Kd.R_base ho9) hb) (Kd.R_lower (Kd.R_new' ho9 (Yd_ eG)) (keep_size (w := w) (g := g) (row := none) (Z7))) (IsS45.below (Z3 HI0) hb) (KeepBut.trans (Z7) (KeepBut.of_below hb g none) (.inl rfl)) (below_step (Z8) hb) ?_; clear eG HI0 HK HB; intro eG jB HI0 HK HB; clear hb ho9; obtain ⟨dy, aC, g4⟩ := Kd.R_slice jB.out; subst g4) | ((with_reducible refine gate_callee (f := 42) rfl ?_); refine gl_ 8 Tryz.func42 #[.pointer (some ⟨g, 0, none⟩), .slice dy yB.length aC] ?_; (with_reducible refine (spec_l1Cur_among.calls g s0_0 sX sY _ _ yB t524 t525 t526 w0 _ ?_ ?_ ?_ ?_ ?_ A3.out).mono ?_); exact (Z3 HI0); exact Z8; exact (Z5 jB); exact (Kd.R_reads' jB.out).2.1; exact far_slice (IsS45.own_ne HI0.out jB.out (by decide)); rintro e lA ⟨rfl, hi, hb, hk⟩; refine ⟨_, rfl, ?_⟩; refine k5_ (Kd.R_mono (Kd.R_keep (IsS45.apart (show IsS45 w0 _ g s0_0 sX sY from Z3 HI0) (Z1 eG) (by decide)) hk (fun _ h => h.2)) (fun _ h => h.1)) (Kd.R_mono (Kd.R_keep (IsS45.apart (show IsS45 w0 _ g s0_0 sX sY from Z3 HI0) (Z1 jB) (by decide)) hk (fun _ h => h.2)) (fun _ h => h.1)) (KeepBut.trans (Z7) hk (.inl rfl)) (hb) (hi) ?_; clear eG jB HK HB HI0; intro eG jB HK HB HI0; (try clear hb hk hi)))
 go_ret
 exact ⟨Z12, Z3 HI0, Z8, Z7⟩

/-! ### spec_DrawWearOf: function 32 -/
def spec_DrawWearOf.f (k : Nat) (l0 : List Int) : Option ((List (S30)) × Int) := (spec_l1Cur_strokes.f k l0 0 0).bind fun jC => ((spec_l1Cur_tools.f l0 jC.2.1 jC.2.2).bind fun sZ => (some (jC.1, sZ.1)))
theorem spec_DrawWearOf.mono : ∀ a0 k, LeO (spec_DrawWearOf.f k a0) (spec_DrawWearOf.f (k + 1) a0) := by
 intro a0 k
 unfold spec_DrawWearOf.f
 exact mo11_
set_option maxHeartbeats 8000000 in
set_option maxRecDepth 100000 in
theorem spec_DrawWearOf.calls (k : Nat) (A0 : Option Addr) (c0 : Nat) (l0 : List Int) (r1 : List (S30)) (r2 : Int) (w : World) (hr0 : Kd.C (Kd.int .u8) w A0 l0.length l0) (hc0 : l0.length ≤ c0) (h : spec_DrawWearOf.f k l0 = some (r1, r2)) :
  Calls Tryz.prog 32 #[.slice A0 l0.length c0] w fun e w' => ∃ v0_ : Value, e = .returned (.tuple #[v0_, .int .i64 r2]) ∧ Kd.R k30 30 w' w.heap.size (fun _ => True) v0_ r1 ∧ Below w.heap.size w w' := by
 have hu45 := Tryz.underlying45
 have HR0 := Aside0.mk hr0
 have HC0 := Aside0.mk hc0
 clear hr0 hc0
 have HB := Aside0.mk (Below.refl w.heap.size w)
 have H : ((spec_l1Cur_strokes.f k l0 0 0).bind fun jC => ((spec_l1Cur_tools.f l0 jC.2.1 jC.2.2).bind fun sZ => (some (jC.1, sZ.1)))) = some (r1, r2) := h
 clear h
 replace H := Option.bind_eq_some_iff.mp H
 obtain ⟨⟨AQ, yC, yD⟩, cK, H⟩ := H
 (try dsimp only at H)
 have A2 := Aside0.mk cK
 clear cK
 replace H := Option.bind_eq_some_iff.mp H
 obtain ⟨⟨AR, t534, t535⟩, fN, H⟩ := H
 replace H : (some (AQ, AR)) = some (r1, r2) := H
 have A3 := Aside0.mk fN
 clear fN
 simp only [Option.some.injEq, Prod.mk.injEq] at H
 obtain ⟨rfl, rfl⟩ := H
 go_enter Tryz.func32, Tryz.ntmps32
 go_wp2_with (first | ((with_reducible refine gate_dst (N := 7) rfl ?_); refine bv_ 7 45 #[.slice A0 l0.length c0, .int .i64 0, .int .u64 0] ?_; intro iG hg w4 hbox hb; refine k4_ (below_step (Z2) hb) ((show IsS45 w w4 iG l0 0 0 from ⟨_, _, hbox, (Z38), HR0.out⟩)) ((Z38 : w.heap.size ≤ iG)) ((Z38 : w.heap.size ≤ iG)) ?_; clear HB; intro HB HI527 GW527 GE527; clear hb hbox hg) | ((with_reducible refine gate_callee (f := 21) rfl ?_); refine gl_ 9 Tryz.func21 #[.pointer (some ⟨iG, 0, none⟩)] ?_; (with_reducible refine (spec_l1Cur_strokes.calls k iG l0 0 0 AQ yC yD w _ ?_ ?_ A2.out).mono ?_); exact (Z3 HI527); exact Z74; rintro e w5 ⟨v529, rfl, ho0, hi, hb, hk⟩; refine ⟨_, rfl, ?_⟩; refine k3_ (Kd.R_lower ho0 (below_size (Z74))) (hb) (hi) ?_; clear HB HI527; intro qQ HB HI527; (try clear hb hk hi ho0)) | ((with_reducible refine gate_callee (f := 48) rfl ?_); refine gl_ 11 Tryz.func48 #[.pointer (some ⟨iG, 0, none⟩)] ?_; (with_reducible refine (spec_l1Cur_tools.calls iG l0 yC yD AR t534 t535 w _ ?_ ?_ A3.out).mono ?_); exact (Z3 HI527); exact Z74; rintro e w6 ⟨rfl, hi, hb, hk⟩; refine ⟨_, rfl, ?_⟩; refine k3_ (Kd.R_mono (Kd.R_keep (IsS45.apart (show IsS45 w _ iG l0 yC yD from Z3 HI527) (Z1 qQ) (by decide)) hk (fun _ h => h.2)) (fun _ h => h.1)) (hb) (hi) ?_; clear qQ HB HI527; intro qQ HB HI527; (try clear hb hk hi)))
 go_ret2
 exact ⟨_, Z12, Z1 qQ, Z74⟩

/-! ### spec_DrawToolChanges: function 9 -/
def spec_DrawToolChanges.f (k : Nat) (l0 : List Int) : Option ((List (S30)) × Int) := (spec_DrawWearOf.f k l0).bind fun nu => (some (nu.1, nu.2))
theorem spec_DrawToolChanges.mono : ∀ a0 k, LeO (spec_DrawToolChanges.f k a0) (spec_DrawToolChanges.f (k + 1) a0) := by
 intro a0 k
 unfold spec_DrawToolChanges.f
 exact mo11_
set_option maxHeartbeats 8000000 in
set_option maxRecDepth 100000 in
theorem spec_DrawToolChanges.calls (k : Nat) (A0 : Option Addr) (c0 : Nat) (l0 : List Int) (r1 : List (S30)) (r2 : Int) (w : World) (hr0 : Kd.C (Kd.int .u8) w A0 l0.length l0) (hc0 : l0.length ≤ c0) (h : spec_DrawToolChanges.f k l0 = some (r1, r2)) :
  Calls Tryz.prog 9 #[.slice A0 l0.length c0] w fun e w' => ∃ v0_ : Value, e = .returned (.tuple #[v0_, .int .i64 r2]) ∧ Kd.R k30 30 w' w.heap.size (fun _ => True) v0_ r1 ∧ Below w.heap.size w w' := by
 have HR0 := Aside0.mk hr0
 have HC0 := Aside0.mk hc0
 clear hr0 hc0
 have HB := Aside0.mk (Below.refl w.heap.size w)
 have H : ((spec_DrawWearOf.f k l0).bind fun nu => (some (nu.1, nu.2))) = some (r1, r2) := h
 clear h
 replace H := Option.bind_eq_some_iff.mp H
 obtain ⟨⟨AS, AT⟩, cK, H⟩ := H
 replace H : (some (AS, AT)) = some (r1, r2) := H
 have A2 := Aside0.mk cK
 clear cK
 simp only [Option.some.injEq, Prod.mk.injEq] at H
 obtain ⟨rfl, rfl⟩ := H
 go_enter Tryz.func9, Tryz.ntmps9
 go_wp2_with (first | ((with_reducible refine gate_callee (f := 32) rfl ?_); refine gl_ 5 Tryz.func32 #[.slice A0 l0.length c0] ?_; (with_reducible refine (spec_DrawWearOf.calls k _ _ l0 AS AT _ ?_ ?_ A2.out).mono ?_); exact (Z18 HR0); exact HC0.out; rintro e w3 ⟨v538, rfl, ho0, hb⟩; refine ⟨_, rfl, ?_⟩; refine k2_ (Kd.R_lower ho0 (below_size (Z2))) (below_step (Z2) hb) ?_; clear HB; intro HO539 HB; (try clear hb ho0)))
 go_ret2
 exact ⟨_, Z12, Z1 HO539, Z2⟩

/-! ### impl_isTools: function 33 -/
def impl_isTools.f (a0 : Int) : Option (Bool) := if a0 ≥ 1 then (some (decide (a0 ≤ 5))) else (some false)
set_option maxHeartbeats 8000000 in
set_option maxRecDepth 100000 in
theorem impl_isTools.calls (a0 : Int) (r : Bool) (w : World) (h : impl_isTools.f a0 = some r) :
  Calls Tryz.prog 33 #[.int .i64 a0] w fun e w' => e = .returned (.bool r) ∧ Drawn0 w w' := by
 have H : (if a0 ≥ 1 then (some (decide (a0 ≤ 5))) else (some false)) = some r := h
 clear h
 by_cases c2 : a0 ≥ 1
 ·rw [if_pos c2] at H
  have fi : decide (1 ≤ a0) = true := decide_eq_true c2
  clear c2
  obtain rfl := Option.some.inj H
  go_enter Tryz.func33, Tryz.ntmps33
  go_wp2
  go_ret
  exact ⟨Z16, Z44⟩
 rw [if_neg c2] at H
 have fi : decide (1 ≤ a0) = false := decide_eq_false c2
 clear c2
 obtain rfl := Option.some.inj H
 go_enter Tryz.func33, Tryz.ntmps33
 go_wp2
 go_ret
 exact ⟨Z16, Z44⟩

end Go.Proofs.YtmnnmddfmmaohaaGreat.PFnHead
