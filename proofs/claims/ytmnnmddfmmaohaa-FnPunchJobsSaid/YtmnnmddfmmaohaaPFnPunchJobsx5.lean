-- written by a program of this session: the kit's print, with outer functions of the session's own (wip/ext)
import Derived.Test.YtmnnmddfmmaohaaPFnPunchJobsx0
import Derived.Test.YtmnnmddfmmaohaaPFnPunchJobsx2
import Derived.Test.YtmnnmddfmmaohaaPFnPunchJobsx3
namespace Go.Proofs.Ytmnnmddfmmaohaa.PFnPunchJobs
open Go.RowKit Go.Proofs.YtmnnmddfmmaohaaW.PrintWords Go.Proofs.YtmnnmddfmmaohaaW.PrintLast Go.Proofs.YtmnnmddfmmaohaaW.PrintMore
attribute [local go_sem] max2_int min2_int max_two min_two max_three min_three max_four min_four   -- for this text's walks alone
set_option linter.unusedVariables false
set_option linter.unusedSimpArgs false
theorem mo5_ {p : Prop} (h : p := by repeat' first | (with_reducible first | apply ih0 | apply ih0 | apply ih1 | apply ih1 | apply spec_shGood.mono | apply spec_shGood.mono | exact LeO.refl _ | exact LeO.none _ | refine LeO.ite ?_ ?_ | refine LeO.bind ?_ (fun _ => ?_)) | exact LeO.none _ | refine LeO.ite ?_ ?_ | refine LeO.bind ?_ (fun _ => ?_)) : p := h

/-! ### spec_shSorted: function 103 -/
mutual
def spec_shSorted.l0 : Nat → List (S90) → List (S90) → Int → Int → Option ((List (S90)) × Bool)
 | 0, _, _, _, _ => none
 | k + 1, x4, x8, x9, x10 => if x10 < x9 then (if 0 ≤ x10 then (if x10 < (x8.length : Int) then (spec_shSorted.l1 k x4 (x4.length : Int) x8 x9 x10 ((rd_T90 x8 x10).f0) ((rd_T90 x8 x10).f1) ((rd_T90 x8 x10).f2)) else (none)) else (none)) else ((spec_shGood.f k x4).bind fun Gi => (if Gi = true then (some (x4, true)) else (some (([] : List (S90)), false))))
def spec_shSorted.l1 : Nat → List (S90) → Int → List (S90) → Int → Int → Int → Int → Int → Option ((List (S90)) × Bool)
 | 0, _, _, _, _, _, _, _, _ => none
 | k + 1, x4, x7, x8, x9, x10, pa, pb, pc => if x7 > 0 then (if 0 ≤ (wrap64 (x7 - 1)) then (if (wrap64 (x7 - 1)) < (x4.length : Int) then ((spec_shBefore.f pa pb pc ((rd_T90 x4 (wrap64 (x7 - 1))).f0) ((rd_T90 x4 (wrap64 (x7 - 1))).f1) ((rd_T90 x4 (wrap64 (x7 - 1))).f2)).bind fun Bu => (if Bu = true then (spec_shSorted.l1 k x4 (wrap64 (x7 - 1)) x8 x9 x10 pa pb pc) else ((some (([] : List (S90)) : List (S90))).bind fun mJ => (if 0 ≤ x7 then (if x7 ≤ (x4.length : Int) then ((some (x4.take (x7 : Int).toNat : List (S90))).bind fun f6 => (if mJ.length + f6.length < 5864062014805 then ((some (mJ ++ f6 : List (S90))).bind fun iS => ((some (([(⟨pa, pb, pc⟩ : S90)] : List (S90)) : List (S90))).bind fun fV => (if iS.length + fV.length < 5864062014805 then ((some (iS ++ fV : List (S90))).bind fun gP => ((some (x4.drop (x7 : Int).toNat : List (S90))).bind fun e3 => (if gP.length + e3.length < 5864062014805 then (spec_shSorted.l0 k (gP ++ e3) x8 x9 (wrap64 (x10 + 1))) else (none)))) else (none)))) else (none))) else (none)) else (none))))) else (none)) else (none)) else ((some (([] : List (S90)) : List (S90))).bind fun oI => (if 0 ≤ x7 then (if x7 ≤ (x4.length : Int) then ((some (x4.take (x7 : Int).toNat : List (S90))).bind fun gA => (if oI.length + gA.length < 5864062014805 then ((some (oI ++ gA : List (S90))).bind fun jV => ((some (([(⟨pa, pb, pc⟩ : S90)] : List (S90)) : List (S90))).bind fun gj => (if jV.length + gj.length < 5864062014805 then ((some (jV ++ gj : List (S90))).bind fun im => ((some (x4.drop (x7 : Int).toNat : List (S90))).bind fun fu => (if im.length + fu.length < 5864062014805 then (spec_shSorted.l0 k (im ++ fu) x8 x9 (wrap64 (x10 + 1))) else (none)))) else (none)))) else (none))) else (none)) else (none)))
end
def spec_shSorted.f (k : Nat) (l0 : List (S90)) : Option ((List (S90)) × Bool) := spec_shSorted.l0 k ([] : List (S90)) l0 (l0.length : Int) 0
theorem spec_shSorted.mono_l : ∀ k, (∀ y0 y1 y2 y3, LeO (spec_shSorted.l0 k y0 y1 y2 y3) (spec_shSorted.l0 (k + 1) y0 y1 y2 y3)) ∧ (∀ y0 y1 y2 y3 y4 y5 y6 y7, LeO (spec_shSorted.l1 k y0 y1 y2 y3 y4 y5 y6 y7) (spec_shSorted.l1 (k + 1) y0 y1 y2 y3 y4 y5 y6 y7))
 | 0 => ⟨fun _ _ _ _ r h => by simp [spec_shSorted.l0] at h, fun _ _ _ _ _ _ _ _ r h => by simp [spec_shSorted.l1] at h⟩
 | k + 1 => by
  obtain ⟨ih0, ih1⟩ := spec_shSorted.mono_l k
  refine ⟨?_, ?_⟩
  ·intro y0 y1 y2 y3
   unfold spec_shSorted.l0
   exact mo5_
  intro y0 y1 y2 y3 y4 y5 y6 y7
  unfold spec_shSorted.l1
  exact mo5_
theorem spec_shSorted.mono : ∀ a0 k, LeO (spec_shSorted.f k a0) (spec_shSorted.f (k + 1) a0) := by
 intro a0 k
 obtain ⟨ih0, ih1⟩ := spec_shSorted.mono_l k
 unfold spec_shSorted.f
 exact mo5_
def spec_shSorted.T6 : Bool × List (List Nat × List Nat) := (true, [([], []), ([0], [0]), ([1], [1]), ([2], [2]), ([2], [2]), ([2], [2]), ([5, 2], [2, 5]), ([4, 6, 2], [2, 4, 6]), ([7, 2], [2, 7]), ([3, 8, 2, 2], [2, 3, 8]), ([2, 9], [2, 9])])
def spec_shSorted.B6 : List Nat := [0, 1, 3, 7, 7, 7, 39, 119, 247, 511, 1023]
theorem spec_shSorted.tab6 : rtab .any (opsOf Try.f103 6) = spec_shSorted.T6 := by kernel_rfl
theorem spec_shSorted.bits6 : waitsOk spec_shSorted.T6.2 spec_shSorted.B6 = true := by kernel_rfl
def spec_shSorted.T8 : Bool × List (List Nat × List Nat) := (true, [([], []), ([], []), ([], []), ([1, 2], [1, 2]), ([0, 3], [0, 3]), ([], []), ([5], [5]), ([4, 6, 4], [4, 6]), ([], []), ([], []), ([8, 9], [8, 9]), ([7, 10, 7], [7, 10]), ([11, 11, 0, 1, 2, 3, 4, 5, 6, 7, 8, 9, 10, 11], [1, 8, 11])])
def spec_shSorted.B8 : List Nat := [0, 0, 0, 6, 15, 0, 32, 127, 0, 0, 768, 2047, 4095]
theorem spec_shSorted.tab8 : rtab .any (opsOf Try.f103 8) = spec_shSorted.T8 := by kernel_rfl
theorem spec_shSorted.bits8 : waitsOk spec_shSorted.T8.2 spec_shSorted.B8 = true := by kernel_rfl
set_option maxHeartbeats 8000000 in
set_option maxRecDepth 100000 in
theorem spec_shSorted.calls (k : Nat) (A0 : Option Addr) (c0 : Nat) (l0 : List (S90)) (r1 : List (S90)) (r2 : Bool) (w : World) (hr0 : Kd.C k90 w A0 l0.length l0) (hc0 : l0.length ≤ c0) (h : spec_shSorted.f k l0 = some (r1, r2)) :
  Calls Try.prog 103 #[.slice A0 l0.length c0] w fun e w' => ∃ v0_ : Value, e = .returned (.tuple #[v0_, .bool r2]) ∧ Kd.R k90 90 w' w.heap.size (fun _ => True) v0_ r1 ∧ Below w.heap.size w w' := by
 have hu90 := Try.underlying90
 have HR0 := Aside0.mk hr0
 have HC0 := Aside0.mk hc0
 clear hr0 hc0
 have HB := Aside0.mk (Below.refl w.heap.size w)
 have H : (spec_shSorted.l0 k ([] : List (S90)) l0 (l0.length : Int) 0) = some (r1, r2) := h
 clear h
 have H' := Aside0.mk H
 clear H
 go_enter Try.func103, Try.ntmps103
 go_wp2
 go_loopg [4, 10] k (fun kq v4 Js w' => ∃ (aX : List (S90)) (au : Int), Js = .int .i64 au ∧ Aside0 (spec_shSorted.l0 kq aX l0 (l0.length : Int) au = some (r1, r2)) ∧ Aside0 (kq ≤ k) ∧ Aside0 (Kd.R k90 90 w' w.heap.size (fun _ => True) v4 aX) ∧ Aside0 (Below w.heap.size w w'))
 case atStart => exact ⟨(([] : List (S90))), (0), (Z41), H', ⟨Nat.le_refl _⟩, ⟨Z44⟩, ⟨Z5⟩⟩
 case round =>
  clear H'
  (try clear c1)
  obtain ⟨aX, au, rfl, HA, HK1, aJ, HB⟩ := hrel
  cases gk with
  | zero => exact absurd HA.out (by simp [spec_shSorted.l0])
  | succ k1 =>
   have H := HA.out
   clear HA
   simp only [spec_shSorted.l0] at H
   by_cases c2 : au < (l0.length : Int)
   ·rw [if_pos c2] at H
    have hP : decide (au < (l0.length : Int)) = true := decide_eq_true c2
    clear c2
    by_cases c3 : 0 ≤ au
    case neg => rw [if_neg c3] at H; exact absurd H (by simp)
    rw [if_pos c3] at H
    have f5 : decide (0 ≤ au) = true := decide_eq_true c3
    clear c3
    by_cases c4 : au < (l0.length : Int)
    case neg => rw [if_neg c4] at H; exact absurd H (by simp)
    rw [if_pos c4] at H
    have go : decide (au < (l0.length : Int)) = true := decide_eq_true c4
    clear c4
    have H' := Aside0.mk H
    clear H
    have CO : 0 ≤ (au : Int) := of_decide_eq_true (Z21)
    have CP : au < (l0.length : Int) := of_decide_eq_true (Z21)
    obtain ⟨ad156, e156, pd, pe, pf⟩ := at_T90 HR0.out au CO CP
    cases e156
    replace pd := (HB.out.cell (World.block_lt_of_cell? w _ pd)).trans pd
    replace pe := (HB.out.cell (World.block_lt_of_cell? w _ pe)).trans pe
    replace pf := (HB.out.cell (World.block_lt_of_cell? w _ pf)).trans pf
    replace CO := eq_true CO
    replace CP := eq_true CP
    go_wp2_with ((with_reducible refine gate_dst (N := 6) rfl ?_); refine bv_ 6 90 #[.int .i64 0, .int .i64 0, .int .i64 0] ?_; intro bb hg w5 hbox hb; refine k5_ (Kd.R_below (Kd.R_elderB (Z2 aJ) bb (Nat.le_of_eq hg.symm)) hb) (below_step (Z5) hb) (hbox) ((Z38 : w.heap.size ≤ bb)) ((Z38 : w.heap.size ≤ bb)) ?_; clear aJ HB; intro aJ HB aG GW157 GE157; clear hb hbox hg; obtain ⟨mt, mu, pm, nQ, mv, pn⟩ := bx3_ (w := w5) aG.out; obtain ⟨hG, fw, Cm⟩ := Kd.R_slice aJ.out; subst Cm)
    (try simp only [Act.put, List.setIfInBounds_toArray, List.set_cons_zero, List.set_cons_succ])
    go_loopg [7] k1 (fun kq v7 w' => ∃ (cD : Int), v7 = .int .i64 cD ∧ Aside0 (spec_shSorted.l1 kq aX cD l0 (l0.length : Int) au ((rd_T90 l0 au).f0) ((rd_T90 l0 au).f1) ((rd_T90 l0 au).f2) = some (r1, r2)) ∧ Aside0 (kq ≤ k1) ∧ Aside0 (Kd.R k90 90 w' w.heap.size (fun k_ => k_ ≠ bb) (.slice hG aX.length fw) aX) ∧ Aside0 (w'.heap[bb]? = some (.cells #[.int .i64 ((rd_T90 l0 au).f0), .int .i64 ((rd_T90 l0 au).f1), .int .i64 ((rd_T90 l0 au).f2)] 90 (0, 0))) ∧ Aside0 (Below w.heap.size w w'))
    case atStart => exact ⟨((aX.length : Int)), (Z41), H', ⟨Nat.le_refl _⟩, ⟨by (with_reducible repeat (first | apply Kd.R_alloc | apply Kd.R_drewN | apply Kd.R_drew)); exact Kd.R_mono (Kd.R_far (p := ⟨bb, 2, none⟩) (Kd.R_far (p := ⟨bb, 1, none⟩) (Kd.R_far (p := ⟨bb, 0, none⟩) (Kd.R_mono aJ.out (fun k_ hk => (⟨hk, hk.2⟩ : _ ∧ k_ ≠ bb))) (fun _ hk => hk.2) (.int .i64 ((rd_T90 l0 au).f0))) (fun _ hk => hk.2) (.int .i64 ((rd_T90 l0 au).f1))) (fun _ hk => hk.2) (.int .i64 ((rd_T90 l0 au).f2))) (fun _ hk => hk.1.2)⟩, ⟨Z115 aG⟩, ⟨Z26⟩⟩
    case round =>
     clear H'
     (try clear p1); (try clear q1); (try clear hx1); (try clear c2); (try clear hP); (try clear p2); (try clear c3); (try clear f5); (try clear c4); (try clear go); (try clear mt); (try clear mu); (try clear pm); (try clear nQ); (try clear mv); (try clear pn); (try clear pd); (try clear pe); (try clear pf); (try clear CO); (try clear CP)
     obtain ⟨cD, rfl, HA, HK2, aJ, aG, HB⟩ := hrel
     cases gk with
     | zero => exact absurd HA.out (by simp [spec_shSorted.l1])
     | succ k2 =>
      have H := HA.out
      clear HA
      simp only [spec_shSorted.l1] at H
      by_cases c8 : cD > 0
      ·rw [if_pos c8] at H
       have nY : decide (0 < cD) = true := decide_eq_true c8
       clear c8
       obtain ⟨fW, hji9⟩ : ∃ j_ : Int, (wrap64 (cD - 1)) = j_ := ⟨_, rfl⟩
       replace H : (if 0 ≤ (fW) then (if (fW) < (aX.length : Int) then ((spec_shBefore.f ((rd_T90 l0 au).f0) ((rd_T90 l0 au).f1) ((rd_T90 l0 au).f2) ((rd_T90 aX (fW)).f0) ((rd_T90 aX (fW)).f1) ((rd_T90 aX (fW)).f2)).bind fun Bu => (if Bu = true then (spec_shSorted.l1 k2 aX fW l0 (l0.length : Int) au ((rd_T90 l0 au).f0) ((rd_T90 l0 au).f1) ((rd_T90 l0 au).f2)) else ((some (([] : List (S90)) : List (S90))).bind fun mJ => (if 0 ≤ cD then (if cD ≤ (aX.length : Int) then ((some (aX.take (cD : Int).toNat : List (S90))).bind fun f6 => (if mJ.length + f6.length < 5864062014805 then ((some (mJ ++ f6 : List (S90))).bind fun iS => ((some (([(⟨((rd_T90 l0 au).f0), ((rd_T90 l0 au).f1), ((rd_T90 l0 au).f2)⟩ : S90)] : List (S90)) : List (S90))).bind fun fV => (if iS.length + fV.length < 5864062014805 then ((some (iS ++ fV : List (S90))).bind fun gP => ((some (aX.drop (cD : Int).toNat : List (S90))).bind fun e3 => (if gP.length + e3.length < 5864062014805 then (spec_shSorted.l0 k2 (gP ++ e3) l0 (l0.length : Int) (wrap64 (au + 1))) else (none)))) else (none)))) else (none))) else (none)) else (none))))) else (none)) else (none)) = some (r1, r2) := by first | (rw [hji9] at H; exact H) | (simp only [hji9] at H ⊢; exact H)
       have hji9w : (IntKind.i64.wrap (cD - 1)) = fW := (i64_w _).trans hji9
       by_cases c10 : 0 ≤ (fW)
       case neg => rw [if_neg c10] at H; exact absurd H (by simp)
       rw [if_pos c10] at H
       have ga : decide (0 ≤ (fW)) = true := decide_eq_true c10
       clear c10
       by_cases c11 : (fW) < (aX.length : Int)
       case neg => rw [if_neg c11] at H; exact absurd H (by simp)
       rw [if_pos c11] at H
       have iY : decide ((fW) < (aX.length : Int)) = true := decide_eq_true c11
       clear c11
       obtain ⟨Bu, GL, H⟩ := bd_ H
       (try dsimp only at H)
       by_cases c13 : Bu = true
       ·subst c13
        rw [if_pos rfl] at H
        have H' := Aside0.mk H
        clear H
        try go_wp2
        refine k3_ (Kd.R_drew aJ.out) (blk_drew aG.out) (below_drew1 HB.out) ?_
        clear aJ aG HB
        intro aJ aG HB
        have vQ : 0 ≤ ((fW) : Int) := of_decide_eq_true (Z21)
        have vR : (fW) < (aX.length : Int) := of_decide_eq_true (Z21)
        obtain ⟨es, e158, nH, nI, nJ⟩ := at_T90 (Kd.R_reads' aJ.out).2.2 (fW) vQ vR
        cases e158
        replace vQ := eq_true vQ
        replace vR := eq_true vR
        refine start_ (n := 11) (S := fun w' => w'.cell? ⟨bb, 0, none⟩ = some (.int .i64 ((rd_T90 l0 au).f0)) ∧ w'.cell? ⟨bb, 1, none⟩ = some (.int .i64 ((rd_T90 l0 au).f1)) ∧ w'.cell? ⟨bb, 2, none⟩ = some (.int .i64 ((rd_T90 l0 au).f2)) ∧ w'.cell? (es.add (((fW)).toNat * 3)) = some (.int .i64 ((rd_T90 aX (fW)).f0)) ∧ w'.cell? ⟨(es.add (((fW)).toNat * 3)).block, (es.add (((fW)).toNat * 3)).off + 1, none⟩ = some (.int .i64 ((rd_T90 aX (fW)).f1)) ∧ w'.cell? ⟨(es.add (((fW)).toNat * 3)).block, (es.add (((fW)).toNat * 3)).off + 2, none⟩ = some (.int .i64 ((rd_T90 aX (fW)).f2))) (ds := []) (M_ 0 11) (by kernel_rfl) rfl rfl ⟨(blk_cell aG.out 0).trans rfl, (blk_cell aG.out 1).trans rfl, (blk_cell aG.out 2).trans rfl, nH, nI, nJ⟩ (fun hHeld => ?_); refine with_tabW spec_shSorted.tab6 spec_shSorted.bits6 (fun HT_ HW_ => ?_)
        generalize wr.drew = oC at aJ aG HB nH nI nJ hHeld ⊢
        refine pu_ 0 16 (M_ 1 10) ?_
        refine pu_ 1 17 (M_ 2 9) ?_
        refine pu_ 2 18 (M_ 3 8) ?_
        refine pu_ 4 20 (N_ 11 23) ?_
        refine pu_ 5 21 (N_ 11 55) ?_
        refine pu_ 6 22 (N_ 11 119) ?_
        refine pu_ 7 23 (N_ 11 247) ?_
        refine tk6_ 3 19 (M_ 8 3) hHeld ?_
        refine tk6_ 8 24 (M_ 9 2) hHeld ?_
        refine one_ (i := 9) (N := some 25) (M_ 10 1) rfl rfl (one_of HT_.out (by kernel_rfl)) (by decide) (fun K hK => ?_)
        refine goes_ Try.func109 (by kernel_rfl) rfl #[.agg #[.int .i64 ((rd_T90 l0 au).f0), .int .i64 ((rd_T90 l0 au).f1), .int .i64 ((rd_T90 l0 au).f2)], .agg #[.int .i64 ((rd_T90 aX (fW)).f0), .int .i64 ((rd_T90 aX (fW)).f1), .int .i64 ((rd_T90 aX (fW)).f2)]] (by rfl) rfl rfl (Z239) ?_
        with_reducible refine (spec_shBefore.calls ((rd_T90 l0 au).f0) ((rd_T90 l0 au).f1) ((rd_T90 l0 au).f2) ((rd_T90 aX (fW)).f0) ((rd_T90 aX (fW)).f1) ((rd_T90 aX (fW)).f2) true _ GL.out).mono ?_
        rintro e qt ⟨rfl, hb⟩
        have HS3_ := (hb.cell (World.block_lt_of_cell? _ _ (hHeld.2.2.2.1))).trans (hHeld.2.2.2.1)
        have HS4_ := (hb.cell (World.block_lt_of_cell? _ _ (hHeld.2.2.2.2.1))).trans (hHeld.2.2.2.2.1)
        have HS5_ := (hb.cell (World.block_lt_of_cell? _ _ (hHeld.2.2.2.2.2))).trans (hHeld.2.2.2.2.2)
        refine ⟨_, rfl, ?_⟩
        have n0_ := Aside0.mk (Ya_ aJ)
        have n1_ := Aside0.mk (Ye_ aG)
        have n2_ := Aside0.mk (below_step (Z26) hb)
        clear aJ
        clear aG
        clear HB
        have aJ := n0_
        have aG := n1_
        have HB := n2_
        clear n0_ n1_ n2_
        (try clear hb)
        (try clear hb2)
        (try clear hk)
        (try clear hi)
        refine hK.out _ _ ⟨(blk_cell aG.out 0).trans rfl, (blk_cell aG.out 1).trans rfl, (blk_cell aG.out 2).trans rfl, HS3_, HS4_, HS5_⟩ (fun hHeld => ?_)
        clear hK K
        refine norm_ (a' := ?_) ?_ ?_
        rotate_left
        ·show Act.put _ (some 25) _ = _
         simp only [Act.put, List.setIfInBounds_toArray, List.set_cons_zero, List.set_cons_succ, i64_w, i32_w]
         rfl
        refine pu_ 10 26 (M_ 11 0) ?_
        refine done_ (done_of HT_.out (by kernel_rfl)) ?_
        try go_wp2
        go_roundg k2
        case measure => have := HK1.out; have := HK2.out; omega
        case rel => exact ⟨(fW), (by first | rfl | (simp; done) | (simp only [← hji9] <;> (first | rfl | simp)) | (simp [*]; done)), H', ⟨by have := HK1.out; have := HK2.out; omega⟩, ⟨Z2 aJ⟩, ⟨Z1 aG⟩, ⟨Z26⟩⟩
       replace c13 := Bool.eq_false_iff.mpr c13
       subst c13
       rw [if_neg (show ¬ (false = true) by decide)] at H
       obtain ⟨mJ, tW⟩ : ∃ y_ : List (S90), y_ = (([] : List (S90))) := ⟨_, rfl⟩
       replace H : (if 0 ≤ cD then (if cD ≤ (aX.length : Int) then ((some (aX.take (cD : Int).toNat : List (S90))).bind fun f6 => (if mJ.length + f6.length < 5864062014805 then ((some (mJ ++ f6 : List (S90))).bind fun iS => ((some (([(⟨((rd_T90 l0 au).f0), ((rd_T90 l0 au).f1), ((rd_T90 l0 au).f2)⟩ : S90)] : List (S90)) : List (S90))).bind fun fV => (if iS.length + fV.length < 5864062014805 then ((some (iS ++ fV : List (S90))).bind fun gP => ((some (aX.drop (cD : Int).toNat : List (S90))).bind fun e3 => (if gP.length + e3.length < 5864062014805 then (spec_shSorted.l0 k2 (gP ++ e3) l0 (l0.length : Int) (wrap64 (au + 1))) else (none)))) else (none)))) else (none))) else (none)) else (none)) = some (r1, r2) := hx_ tW H
       have xD := Aside0.mk tW
       clear tW
       by_cases c16 : 0 ≤ cD
       case neg => rw [if_neg c16] at H; exact absurd H (by simp)
       rw [if_pos c16] at H
       have mU := eq_true c16
       have c16b1 : decide (0 ≤ cD) = true := decide_eq_true c16
       clear c16
       by_cases c17 : cD ≤ (aX.length : Int)
       case neg => rw [if_neg c17] at H; exact absurd H (by simp)
       rw [if_pos c17] at H
       have sA := eq_true c17
       have ET : decide (cD ≤ (aX.length : Int)) = true := decide_eq_true c17
       clear c17
       obtain ⟨f6, tX⟩ : ∃ y_ : List (S90), y_ = (aX.take (cD : Int).toNat) := ⟨_, rfl⟩
       replace H : (if mJ.length + f6.length < 5864062014805 then ((some (mJ ++ f6 : List (S90))).bind fun iS => ((some (([(⟨((rd_T90 l0 au).f0), ((rd_T90 l0 au).f1), ((rd_T90 l0 au).f2)⟩ : S90)] : List (S90)) : List (S90))).bind fun fV => (if iS.length + fV.length < 5864062014805 then ((some (iS ++ fV : List (S90))).bind fun gP => ((some (aX.drop (cD : Int).toNat : List (S90))).bind fun e3 => (if gP.length + e3.length < 5864062014805 then (spec_shSorted.l0 k2 (gP ++ e3) l0 (l0.length : Int) (wrap64 (au + 1))) else (none)))) else (none)))) else (none)) = some (r1, r2) := hx_ tX H
       have ow := Aside0.mk tX
       clear tX
       by_cases c18 : mJ.length + f6.length < 5864062014805
       case neg => rw [if_neg c18] at H; exact absurd H (by simp)
       rw [if_pos c18] at H
       have sB := Aside0.mk c18
       clear c18
       obtain ⟨iS, tY⟩ : ∃ y_ : List (S90), y_ = (mJ ++ f6) := ⟨_, rfl⟩
       replace H : ((some (([(⟨((rd_T90 l0 au).f0), ((rd_T90 l0 au).f1), ((rd_T90 l0 au).f2)⟩ : S90)] : List (S90)) : List (S90))).bind fun fV => (if iS.length + fV.length < 5864062014805 then ((some (iS ++ fV : List (S90))).bind fun gP => ((some (aX.drop (cD : Int).toNat : List (S90))).bind fun e3 => (if gP.length + e3.length < 5864062014805 then (spec_shSorted.l0 k2 (gP ++ e3) l0 (l0.length : Int) (wrap64 (au + 1))) else (none)))) else (none))) = some (r1, r2) := hx_ tY H
       have Bv := Aside0.mk tY
       clear tY
       obtain ⟨fV, tZ⟩ : ∃ y_ : List (S90), y_ = (([(⟨((rd_T90 l0 au).f0), ((rd_T90 l0 au).f1), ((rd_T90 l0 au).f2)⟩ : S90)] : List (S90))) := ⟨_, rfl⟩
       replace H : (if iS.length + fV.length < 5864062014805 then ((some (iS ++ fV : List (S90))).bind fun gP => ((some (aX.drop (cD : Int).toNat : List (S90))).bind fun e3 => (if gP.length + e3.length < 5864062014805 then (spec_shSorted.l0 k2 (gP ++ e3) l0 (l0.length : Int) (wrap64 (au + 1))) else (none)))) else (none)) = some (r1, r2) := hx_ tZ H
       have q0 := Aside0.mk tZ
       clear tZ
       by_cases c19 : iS.length + fV.length < 5864062014805
       case neg => rw [if_neg c19] at H; exact absurd H (by simp)
       rw [if_pos c19] at H
       have LMc19 := Aside0.mk c19
       clear c19
       obtain ⟨gP, t0⟩ : ∃ y_ : List (S90), y_ = (iS ++ fV) := ⟨_, rfl⟩
       replace H : ((some (aX.drop (cD : Int).toNat : List (S90))).bind fun e3 => (if gP.length + e3.length < 5864062014805 then (spec_shSorted.l0 k2 (gP ++ e3) l0 (l0.length : Int) (wrap64 (au + 1))) else (none))) = some (r1, r2) := hx_ t0 H
       have Ny173 := Aside0.mk t0
       clear t0
       have nw := eq_true (of_decide_eq_true (Z21) : 0 ≤ cD)
       have xg := eq_true (of_decide_eq_true (Z21) : cD ≤ (aX.length : Int))
       obtain ⟨e3, t1⟩ : ∃ y_ : List (S90), y_ = (aX.drop (cD : Int).toNat) := ⟨_, rfl⟩
       replace H : (if gP.length + e3.length < 5864062014805 then (spec_shSorted.l0 k2 (gP ++ e3) l0 (l0.length : Int) (wrap64 (au + 1))) else (none)) = some (r1, r2) := hx_ t1 H
       have ox := Aside0.mk t1
       clear t1
       by_cases c22 : gP.length + e3.length < 5864062014805
       case neg => rw [if_neg c22] at H; exact absurd H (by simp)
       rw [if_pos c22] at H
       have LMc22 := Aside0.mk c22
       clear c22
       obtain ⟨Ig, t2⟩ : ∃ y_ : List (S90), y_ = (gP ++ e3) := ⟨_, rfl⟩
       replace H : (spec_shSorted.l0 k2 Ig l0 (l0.length : Int) (wrap64 (au + 1))) = some (r1, r2) := hx_ t2 H
       have Ny180 := Aside0.mk t2
       clear t2
       have H' := Aside0.mk H
       clear H
       try go_wp2
       refine k3_ (Kd.R_drew aJ.out) (blk_drew aG.out) (below_drew1 HB.out) ?_
       clear aJ aG HB
       intro aJ aG HB
       have vQ : 0 ≤ ((fW) : Int) := of_decide_eq_true (Z21)
       have vR : (fW) < (aX.length : Int) := of_decide_eq_true (Z21)
       obtain ⟨es, e158, nH, nI, nJ⟩ := at_T90 (Kd.R_reads' aJ.out).2.2 (fW) vQ vR
       cases e158
       replace vQ := eq_true vQ
       replace vR := eq_true vR
       refine start_ (n := 11) (S := fun w' => w'.cell? ⟨bb, 0, none⟩ = some (.int .i64 ((rd_T90 l0 au).f0)) ∧ w'.cell? ⟨bb, 1, none⟩ = some (.int .i64 ((rd_T90 l0 au).f1)) ∧ w'.cell? ⟨bb, 2, none⟩ = some (.int .i64 ((rd_T90 l0 au).f2)) ∧ w'.cell? (es.add (((fW)).toNat * 3)) = some (.int .i64 ((rd_T90 aX (fW)).f0)) ∧ w'.cell? ⟨(es.add (((fW)).toNat * 3)).block, (es.add (((fW)).toNat * 3)).off + 1, none⟩ = some (.int .i64 ((rd_T90 aX (fW)).f1)) ∧ w'.cell? ⟨(es.add (((fW)).toNat * 3)).block, (es.add (((fW)).toNat * 3)).off + 2, none⟩ = some (.int .i64 ((rd_T90 aX (fW)).f2))) (ds := []) (M_ 0 11) (by kernel_rfl) rfl rfl ⟨(blk_cell aG.out 0).trans rfl, (blk_cell aG.out 1).trans rfl, (blk_cell aG.out 2).trans rfl, nH, nI, nJ⟩ (fun hHeld => ?_); refine with_tabW spec_shSorted.tab6 spec_shSorted.bits6 (fun HT_ HW_ => ?_)
       generalize wr.drew = st at aJ aG HB nH nI nJ hHeld ⊢
       refine pu_ 0 16 (M_ 1 10) ?_
       refine pu_ 1 17 (M_ 2 9) ?_
       refine pu_ 2 18 (M_ 3 8) ?_
       refine pu_ 4 20 (N_ 11 23) ?_
       refine pu_ 5 21 (N_ 11 55) ?_
       refine pu_ 6 22 (N_ 11 119) ?_
       refine pu_ 7 23 (N_ 11 247) ?_
       refine tk6_ 3 19 (M_ 8 3) hHeld ?_
       refine tk6_ 8 24 (M_ 9 2) hHeld ?_
       refine one_ (i := 9) (N := some 25) (M_ 10 1) rfl rfl (one_of HT_.out (by kernel_rfl)) (by decide) (fun K hK => ?_)
       refine goes_ Try.func109 (by kernel_rfl) rfl #[.agg #[.int .i64 ((rd_T90 l0 au).f0), .int .i64 ((rd_T90 l0 au).f1), .int .i64 ((rd_T90 l0 au).f2)], .agg #[.int .i64 ((rd_T90 aX (fW)).f0), .int .i64 ((rd_T90 aX (fW)).f1), .int .i64 ((rd_T90 aX (fW)).f2)]] (by rfl) rfl rfl (Z239) ?_
       with_reducible refine (spec_shBefore.calls ((rd_T90 l0 au).f0) ((rd_T90 l0 au).f1) ((rd_T90 l0 au).f2) ((rd_T90 aX (fW)).f0) ((rd_T90 aX (fW)).f1) ((rd_T90 aX (fW)).f2) false _ GL.out).mono ?_
       rintro e fE ⟨rfl, hb⟩
       have HS3_ := (hb.cell (World.block_lt_of_cell? _ _ (hHeld.2.2.2.1))).trans (hHeld.2.2.2.1)
       have HS4_ := (hb.cell (World.block_lt_of_cell? _ _ (hHeld.2.2.2.2.1))).trans (hHeld.2.2.2.2.1)
       have HS5_ := (hb.cell (World.block_lt_of_cell? _ _ (hHeld.2.2.2.2.2))).trans (hHeld.2.2.2.2.2)
       refine ⟨_, rfl, ?_⟩
       have n0_ := Aside0.mk (Ya_ aJ)
       have n1_ := Aside0.mk (Ye_ aG)
       have n2_ := Aside0.mk (below_step (Z26) hb)
       clear aJ
       clear aG
       clear HB
       have aJ := n0_
       have aG := n1_
       have HB := n2_
       clear n0_ n1_ n2_
       (try clear hb)
       (try clear hb2)
       (try clear hk)
       (try clear hi)
       refine hK.out _ _ ⟨(blk_cell aG.out 0).trans rfl, (blk_cell aG.out 1).trans rfl, (blk_cell aG.out 2).trans rfl, HS3_, HS4_, HS5_⟩ (fun hHeld => ?_)
       clear hK K
       refine norm_ (a' := ?_) ?_ ?_
       rotate_left
       ·show Act.put _ (some 25) _ = _
        simp only [Act.put, List.setIfInBounds_toArray, List.set_cons_zero, List.set_cons_succ, i64_w, i32_w]
        rfl
       refine pu_ 10 26 (M_ 11 0) ?_
       refine done_ (done_of HT_.out (by kernel_rfl)) ?_
       try go_wp2
       refine k3_ (Kd.R_drew aJ.out) (blk_drew aG.out) (below_drew1 HB.out) ?_
       clear aJ aG HB
       intro aJ aG HB
       have Jt : (cD : Int) ≤ ((aX.length : Int) : Int) := of_decide_eq_true (Z21)
       obtain ⟨i026, hi026, _, hsz26, _⟩ := info_parts info90
       have hroom26 : aX.length ≤ fw := (Kd.R_reads' aJ.out).2.1
       have hC26 : Kd.C k90 _ (some es) aX.length aX := (Kd.R_reads' aJ.out).2.2
       have hcut26 := cut_to (P := Try.prog) 42 90 .i64 Try.underlying42 hi026 (some es) aX.length fw cD (of_decide_eq_true (Z21)) Jt hroom26
       have hr26 := Kd.C_take (m := (cD : Int).toNat) hC26 (by omega)
       have Gj : f6.length = (cD : Int).toNat := (Z263 ow)
       rw [← ow.out] at hr26
       rw [← Gj] at hcut26
       have HR166 := Aside0.mk hr26
       have HC166 := Aside0.mk (show f6.length ≤ fw from by omega)
       clear hr26 hC26 hroom26 hi026 hsz26
       have KY26 := Aside0.mk Gj
       clear Gj
       have KL26 := Aside0.mk (show (cD : Int).toNat ≤ aX.length from by omega)
       replace Jt := eq_true Jt
       have Ju : (cD : Int) ≤ ((aX.length : Int) : Int) := of_decide_eq_true (Z21)
       obtain ⟨i027, hi027, _, hsz27, _⟩ := info_parts info90
       have hroom27 : aX.length ≤ fw := (Kd.R_reads' aJ.out).2.1
       have hC27 : Kd.C k90 _ (some es) aX.length aX := (Kd.R_reads' aJ.out).2.2
       have q027 : (0 : Int) ≤ (cD : Int) := of_decide_eq_true (Z21)
       have hcut27 := cut_from (P := Try.prog) 42 90 .i64 Try.underlying42 hi027 3 hsz27 (some es) aX.length fw cD q027 Ju
       have hr27 := Kd.C_drop (m := (cD : Int).toNat) (c := fw) hC27 (by omega) hroom27
       obtain ⟨Gk, hA27⟩ : ∃ A1, A1 = (if fw = (cD : Int).toNat then (some es) else ((some es) : Option Addr).map (·.add ((cD : Int).toNat * 3))) := ⟨_, rfl⟩
       obtain ⟨c27, hc27⟩ : ∃ c1, c1 = fw - (cD : Int).toNat := ⟨_, rfl⟩
       have CQ : e3.length = aX.length - (cD : Int).toNat := (by rw [ox.out, List.length_drop] <;> omega)
       rw [show (aX).drop (cD : Int).toNat = e3 from ox.out.symm] at hr27
       replace hr27 : Kd.C k90 _ Gk e3.length e3 := (by rw [hA27]; exact hr27)
       rw [← CQ, ← hA27, ← hc27] at hcut27
       have HR179 := Aside0.mk hr27
       have HC179 := Aside0.mk (show e3.length ≤ c27 from by rw [CQ, hc27]; exact Nat.sub_le_sub_right hroom27 _)
       clear hr27 hC27 hroom27 hi027 hsz27 hc27
       have KY27 := Aside0.mk CQ
       have yl := Aside0.mk hA27
       clear CQ hA27
       have KL27 := Aside0.mk (show (cD : Int).toNat ≤ aX.length from by omega)
       replace Ju := eq_true Ju
       refine start_ (n := 13) (S := fun w' => w'.cell? ⟨bb, 0, none⟩ = some (.int .i64 ((rd_T90 l0 au).f0)) ∧ w'.cell? ⟨bb, 1, none⟩ = some (.int .i64 ((rd_T90 l0 au).f1)) ∧ w'.cell? ⟨bb, 2, none⟩ = some (.int .i64 ((rd_T90 l0 au).f2))) (ds := []) (M_ 0 13) (by kernel_rfl) rfl rfl ⟨(blk_cell aG.out 0).trans rfl, (blk_cell aG.out 1).trans rfl, (blk_cell aG.out 2).trans rfl⟩ (fun hHeld => ?_); refine with_tabW spec_shSorted.tab8 spec_shSorted.bits8 (fun HT_ HW_ => ?_)
       generalize fE.drew = qN at aJ aG HB HR166 HR179 hHeld ⊢
       refine pu_ 1 30 (N_ 13 2) ?_
       refine pu_ 2 31 (N_ 13 6) ?_
       refine pu_ 3 32 (N_ 13 14) ?_
       refine pu_ 8 37 (N_ 13 270) ?_
       refine pu_ 9 38 (N_ 13 782) ?_
       refine pu_ 10 39 (N_ 13 1806) ?_
       refine tk3_ 5 34 (N_ 13 1838) hHeld ?_
       refine join_ (σ := Value × Value × Value) 3 (N_ 13 1919) (fun s_ => [(29, s_.1), (33, s_.2.1), (35, s_.2.2)]) (fun s_ w' => (w'.cell? ⟨bb, 0, none⟩ = some (.int .i64 ((rd_T90 l0 au).f0)) ∧ w'.cell? ⟨bb, 1, none⟩ = some (.int .i64 ((rd_T90 l0 au).f1)) ∧ w'.cell? ⟨bb, 2, none⟩ = some (.int .i64 ((rd_T90 l0 au).f2))) ∧ (Kd.R k90 90 w' w.heap.size (fun k_ => some k_ ≠ (s_.2.2 : Value).ownBlock ∧ some k_ ≠ (.slice (some es) aX.length fw : Value).ownBlock ∧ k_ ≠ bb) s_.2.1 iS) ∧ (Kd.R k90 90 w' w.heap.size (fun k_ => some k_ ≠ (s_.2.1 : Value).ownBlock ∧ some k_ ≠ (.slice (some es) aX.length fw : Value).ownBlock ∧ k_ ≠ bb) s_.2.2 fV) ∧ (Kd.R k90 90 w' w.heap.size (fun k_ => some k_ ≠ (s_.2.1 : Value).ownBlock ∧ some k_ ≠ (s_.2.2 : Value).ownBlock ∧ k_ ≠ bb) (.slice (some es) aX.length fw) aX) ∧ (w'.heap[bb]? = some (.cells #[.int .i64 ((rd_T90 l0 au).f0), .int .i64 ((rd_T90 l0 au).f1), .int .i64 ((rd_T90 l0 au).f2)] 90 (0, 0))) ∧ (Below w.heap.size w w')) ?_ ?_
       rotate_left
       ·intro hCont
        refine two_ (i := 0) (j := 6) (Ni := some 29) (Nj := some 35) (N_ 13 1839) (N_ 13 1902) rfl rfl rfl rfl (two_of HT_.out (by kernel_rfl)) (by decide) (by decide) (fun K hK => ?_) (fun K hK => ?_)
        ·skip
         refine Kd.R_lit_step k90 _ 90 ?hg (N := 29) ?hd (xs := ([] : List (S90))) (inner := []) (ok := fun _ => True) (okp := fun _ => True) ?hr ?hp (fun _ hk => hk) trivial (Below.refl _ _) (Nat.le_refl _) (by simp) ?_; (case hd => rfl); (case hg => rfl); (case hr => exact Z110); (case hp => exact (Reps.none _ _))
         intro t3 pt ho29 hb hg_ hnew_
         clear hg_ hnew_
         (first | rw [← xD.out] at ho29 | (simp only [Int.reduceToNat] at ho29; rw [← xD.out] at ho29))
         have n0_ := Aside0.mk (Kd.R_elder' (Z2 aJ) (Kd.R_base ho29) hb)
         have n1_ := Aside0.mk (Kd.R_lower (Kd.R_newB (Kd.R_new' ho29 (Yd_ aJ)) (g := bb) (o := .cells #[.int .i64 ((rd_T90 l0 au).f0), .int .i64 ((rd_T90 l0 au).f1), .int .i64 ((rd_T90 l0 au).f2)] 90 (0, 0)) (Z1 aG)) (below_size (Z26)))
         have n2_ := Aside0.mk (Ye_ aG)
         have n3_ := Aside0.mk (Kd.C_below (Z39 HR166) hb)
         have n4_ := Aside0.mk (Kd.C_below (Z39 HR179) hb)
         have n5_ := Aside0.mk (below_step (Z26) hb)
         clear aJ
         clear aG
         clear HR166
         clear HR179
         clear HB
         have aJ := n0_
         have iG := n1_
         have aG := n2_
         have HR166 := n3_
         have HR179 := n4_
         have HB := n5_
         clear n0_ n1_ n2_ n3_ n4_ n5_
         clear hb ho29
         refine hK.out _ _ ⟨(blk_cell aG.out 0).trans rfl, (blk_cell aG.out 1).trans rfl, (blk_cell aG.out 2).trans rfl⟩ (fun hHeld => ?_)
         clear hK K
         refine norm_ (a' := ?_) ?_ ?_
         rotate_left
         ·show Act.put _ (some 29) _ = _
          simp only [Act.put, List.setIfInBounds_toArray, List.set_cons_zero, List.set_cons_succ, i64_w, i32_w]
          rfl
         refine two_ (i := 4) (j := 6) (Ni := some 33) (Nj := some 35) (N_ 13 1855) (N_ 13 1903) rfl rfl rfl rfl (two_of HT_.out (by kernel_rfl)) (by decide) (by decide) (fun K hK => ?_) (fun K hK => ?_)
         ·skip
          refine Kd.R_append_rows_step k90 (w0 := w) w.heap.size (by rfl) (.tmp 29) (.tmp 32) 42 90 (.agg #[(.int .i64 0), (.int .i64 0), (.int .i64 0)]) 24 rfl Try.underlying42 info90 rfl (by decide) (by omega) t3 mJ f6 _ _ _ (fun k_ => some k_ ≠ (.slice (some es) aX.length fw : Value).ownBlock ∧ k_ ≠ bb) (fun _ => False) rfl rfl ?aO ?aR (fun _ _ h => h) (fun _ h => h.elim) ?aF ?aB ?aS ?aL ?_
          (case aR => exact Z222)
          (case aB => exact Z26)
          (case aF => exact (fun k_ hk => ⟨Kd.fresh' (Yd_ aJ) k_ hk, Kd.freshB (g := bb) (o := .cells #[.int .i64 ((rd_T90 l0 au).f0), .int .i64 ((rd_T90 l0 au).f1), .int .i64 ((rd_T90 l0 au).f2)] 90 (0, 0)) (Z1 aG) k_ hk⟩))
          (case aO => exact (Z175 iG))
          (case aS => exact (below_size (Z26)))
          (case aL => exact Z182 sB)
          intro qA nt ho hb hg hat
          rw [← Bv.out] at ho
          have n0_ := Aside0.mk (Kd.R_after (ok := (fun k_ => k_ ≠ bb)) (Z2 aJ) hg hat)
          have n1_ := Aside0.mk (blk_grown (g := bb) (o := .cells #[.int .i64 ((rd_T90 l0 au).f0), .int .i64 ((rd_T90 l0 au).f1), .int .i64 ((rd_T90 l0 au).f2)] 90 (0, 0)) (Z1 aG) hg (Kd.R_away iG.out (fun _ hk => hk.2)))
          have n2_ := Aside0.mk (hb)
          have n3_ := Aside0.mk ((show Kd.C k90 nt (some es) f6.length f6 from by rw [ow.out]; exact Kd.C_take (m := (cD : Int).toNat) ((Kd.R_reads' (Kd.R_after (ok := (fun k_ => k_ ≠ bb)) (Z2 aJ) hg hat)).2.2) KL26.out))
          have n4_ := Aside0.mk ((show Kd.C k90 nt Gk e3.length e3 from by rw [ox.out, yl.out]; exact Kd.C_drop (m := (cD : Int).toNat) (c := fw) ((Kd.R_reads' (Kd.R_after (ok := (fun k_ => k_ ≠ bb)) (Z2 aJ) hg hat)).2.2) KL27.out ((Kd.R_reads' (Kd.R_after (ok := (fun k_ => k_ ≠ bb)) (Z2 aJ) hg hat)).2.1)))
          have n5_ := Aside0.mk (ho)
          clear aJ
          clear aG
          clear HB
          clear HR166
          clear HR179
          clear iG
          have aJ := n0_
          have aG := n1_
          have HB := n2_
          have HR166 := n3_
          have HR179 := n4_
          have jc := n5_
          clear n0_ n1_ n2_ n3_ n4_ n5_
          clear ho hb hg hat
          refine hK.out _ _ ⟨(blk_cell aG.out 0).trans rfl, (blk_cell aG.out 1).trans rfl, (blk_cell aG.out 2).trans rfl⟩ (fun hHeld => ?_)
          clear hK K
          refine norm_ (a' := ?_) ?_ ?_
          rotate_left
          ·show Act.put _ (some 33) _ = _
           simp only [Act.put, List.setIfInBounds_toArray, List.set_cons_zero, List.set_cons_succ, i64_w, i32_w]
           rfl
          refine one_ (i := 6) (N := some 35) (N_ 13 1919) rfl rfl (one_of HT_.out (by kernel_rfl)) (by decide) (fun K hK => ?_)
          refine Kd.R_lit_step k90 _ 90 ?hg (N := 35) ?hd (xs := ([(⟨((rd_T90 l0 au).f0), ((rd_T90 l0 au).f1), ((rd_T90 l0 au).f2)⟩ : S90)] : List (S90))) (inner := [.int .i64 ((rd_T90 l0 au).f0), .int .i64 ((rd_T90 l0 au).f1), .int .i64 ((rd_T90 l0 au).f2)]) (ok := fun _ => True) (okp := fun _ => True) ?hr ?hp (fun _ hk => hk) trivial (Below.refl _ _) (Nat.le_refl _) (by simp) ?_; (case hd => rfl); (case hg => rfl); (case hr => exact Z110); (case hp => exact (Reps.c3 (show Kd.M k90 _ _ _ (⟨((rd_T90 l0 au).f0), ((rd_T90 l0 au).f1), ((rd_T90 l0 au).f2)⟩ : S90) [.int .i64 ((rd_T90 l0 au).f0), .int .i64 ((rd_T90 l0 au).f1), .int .i64 ((rd_T90 l0 au).f2)] from (k90_mkM _ _ _ (⟨((rd_T90 l0 au).f0), ((rd_T90 l0 au).f1), ((rd_T90 l0 au).f2)⟩ : S90) )) (Reps.none _ _)))
          intro jF GY ho32 hb hg_ hnew_
          clear hg_ hnew_
          (first | rw [← q0.out] at ho32 | (simp only [Int.reduceToNat] at ho32; rw [← q0.out] at ho32))
          have n0_ := Aside0.mk (Kd.R_elder' (Z2 aJ) (Kd.R_base ho32) hb)
          have n1_ := Aside0.mk (Kd.R_elder' (Z2 jc) (Kd.R_base ho32) hb)
          have n2_ := Aside0.mk (Kd.R_lower (Kd.R_newB (Kd.R_new' (Kd.R_new' ho32 (Yd_ aJ)) (Yd_ jc)) (g := bb) (o := .cells #[.int .i64 ((rd_T90 l0 au).f0), .int .i64 ((rd_T90 l0 au).f1), .int .i64 ((rd_T90 l0 au).f2)] 90 (0, 0)) (Z1 aG)) (below_size (Z26)))
          have n3_ := Aside0.mk (Ye_ aG)
          have n4_ := Aside0.mk (Kd.C_below (Z39 HR166) hb)
          have n5_ := Aside0.mk (Kd.C_below (Z39 HR179) hb)
          have n6_ := Aside0.mk (below_step (Z26) hb)
          clear aJ
          clear jc
          clear aG
          clear HR166
          clear HR179
          clear HB
          have aJ := n0_
          have jc := n1_
          have e5 := n2_
          have aG := n3_
          have HR166 := n4_
          have HR179 := n5_
          have HB := n6_
          clear n0_ n1_ n2_ n3_ n4_ n5_ n6_
          clear hb ho32
          refine hK.out _ _ ⟨(blk_cell aG.out 0).trans rfl, (blk_cell aG.out 1).trans rfl, (blk_cell aG.out 2).trans rfl⟩ (fun hHeld => ?_)
          clear hK K
          refine norm_ (a' := ?_) ?_ ?_
          rotate_left
          ·show Act.put _ (some 35) _ = _
           simp only [Act.put, List.setIfInBounds_toArray, List.set_cons_zero, List.set_cons_succ, i64_w, i32_w]
           rfl
          exact norm_ (Z158) (hCont (t3, qA, jF) _ ⟨hHeld, (Z127 jc), (Z265 e5), (Z250), (Z1 aG), (Z26)⟩)
         skip
         refine Kd.R_lit_step k90 _ 90 ?hg (N := 35) ?hd (xs := ([(⟨((rd_T90 l0 au).f0), ((rd_T90 l0 au).f1), ((rd_T90 l0 au).f2)⟩ : S90)] : List (S90))) (inner := [.int .i64 ((rd_T90 l0 au).f0), .int .i64 ((rd_T90 l0 au).f1), .int .i64 ((rd_T90 l0 au).f2)]) (ok := fun _ => True) (okp := fun _ => True) ?hr ?hp (fun _ hk => hk) trivial (Below.refl _ _) (Nat.le_refl _) (by simp) ?_; (case hd => rfl); (case hg => rfl); (case hr => exact Z110); (case hp => exact (Reps.c3 (show Kd.M k90 _ _ _ (⟨((rd_T90 l0 au).f0), ((rd_T90 l0 au).f1), ((rd_T90 l0 au).f2)⟩ : S90) [.int .i64 ((rd_T90 l0 au).f0), .int .i64 ((rd_T90 l0 au).f1), .int .i64 ((rd_T90 l0 au).f2)] from (k90_mkM _ _ _ (⟨((rd_T90 l0 au).f0), ((rd_T90 l0 au).f1), ((rd_T90 l0 au).f2)⟩ : S90) )) (Reps.none _ _)))
         intro jF nt ho31 hb hg_ hnew_
         clear hg_ hnew_
         (first | rw [← q0.out] at ho31 | (simp only [Int.reduceToNat] at ho31; rw [← q0.out] at ho31))
         have n0_ := Aside0.mk (Kd.R_elder' (Z2 aJ) (Kd.R_base ho31) hb)
         have n1_ := Aside0.mk (Kd.R_elder' (Z2 iG) (Kd.R_base ho31) hb)
         have n2_ := Aside0.mk (Kd.R_lower (Kd.R_newB (Kd.R_new' (Kd.R_new' ho31 (Yd_ aJ)) (Yd_ iG)) (g := bb) (o := .cells #[.int .i64 ((rd_T90 l0 au).f0), .int .i64 ((rd_T90 l0 au).f1), .int .i64 ((rd_T90 l0 au).f2)] 90 (0, 0)) (Z1 aG)) (below_size (Z26)))
         have n3_ := Aside0.mk (Ye_ aG)
         have n4_ := Aside0.mk (Kd.C_below (Z39 HR166) hb)
         have n5_ := Aside0.mk (Kd.C_below (Z39 HR179) hb)
         have n6_ := Aside0.mk (below_step (Z26) hb)
         clear aJ
         clear iG
         clear aG
         clear HR166
         clear HR179
         clear HB
         have aJ := n0_
         have iG := n1_
         have e5 := n2_
         have aG := n3_
         have HR166 := n4_
         have HR179 := n5_
         have HB := n6_
         clear n0_ n1_ n2_ n3_ n4_ n5_ n6_
         clear hb ho31
         refine hK.out _ _ ⟨(blk_cell aG.out 0).trans rfl, (blk_cell aG.out 1).trans rfl, (blk_cell aG.out 2).trans rfl⟩ (fun hHeld => ?_)
         clear hK K
         refine norm_ (a' := ?_) ?_ ?_
         rotate_left
         ·show Act.put _ (some 35) _ = _
          simp only [Act.put, List.setIfInBounds_toArray, List.set_cons_zero, List.set_cons_succ, i64_w, i32_w]
          rfl
         refine one_ (i := 4) (N := some 33) (N_ 13 1919) rfl rfl (one_of HT_.out (by kernel_rfl)) (by decide) (fun K hK => ?_)
         refine Kd.R_append_rows_step k90 (w0 := w) w.heap.size (by rfl) (.tmp 29) (.tmp 32) 42 90 (.agg #[(.int .i64 0), (.int .i64 0), (.int .i64 0)]) 24 rfl Try.underlying42 info90 rfl (by decide) (by omega) t3 mJ f6 _ _ _ (fun k_ => some k_ ≠ (.slice (some es) aX.length fw : Value).ownBlock ∧ some k_ ≠ (jF : Value).ownBlock ∧ k_ ≠ bb) (fun _ => False) rfl rfl ?aO ?aR (fun _ _ h => h) (fun _ h => h.elim) ?aF ?aB ?aS ?aL ?_
         (case aR => exact Z222)
         (case aB => exact Z26)
         (case aF => exact (fun k_ hk => ⟨Kd.fresh' (Yd_ aJ) k_ hk, Kd.fresh' (Yd_ e5) k_ hk, Kd.freshB (g := bb) (o := .cells #[.int .i64 ((rd_T90 l0 au).f0), .int .i64 ((rd_T90 l0 au).f1), .int .i64 ((rd_T90 l0 au).f2)] 90 (0, 0)) (Z1 aG) k_ hk⟩))
         (case aO => exact (Z266 iG))
         (case aS => exact (below_size (Z26)))
         (case aL => exact Z182 sB)
         intro qA B7 ho hb hg hat
         rw [← Bv.out] at ho
         have n0_ := Aside0.mk (Kd.R_after (ok := (fun k_ => some k_ ≠ (jF : Value).ownBlock ∧ k_ ≠ bb)) (Z140) hg hat)
         have n1_ := Aside0.mk (blk_grown (g := bb) (o := .cells #[.int .i64 ((rd_T90 l0 au).f0), .int .i64 ((rd_T90 l0 au).f1), .int .i64 ((rd_T90 l0 au).f2)] 90 (0, 0)) (Z1 aG) hg (Kd.R_away iG.out (fun _ hk => hk.1.2)))
         have n2_ := Aside0.mk (Kd.R_after (ok := (fun k_ => some k_ ≠ (.slice (some es) aX.length fw : Value).ownBlock ∧ k_ ≠ bb)) (Z267 e5) hg hat)
         have n3_ := Aside0.mk (hb)
         have n4_ := Aside0.mk ((show Kd.C k90 B7 (some es) f6.length f6 from by rw [ow.out]; exact Kd.C_take (m := (cD : Int).toNat) ((Kd.R_reads' (Kd.R_after (ok := (fun k_ => some k_ ≠ (jF : Value).ownBlock ∧ k_ ≠ bb)) (Z140) hg hat)).2.2) KL26.out))
         have n5_ := Aside0.mk ((show Kd.C k90 B7 Gk e3.length e3 from by rw [ox.out, yl.out]; exact Kd.C_drop (m := (cD : Int).toNat) (c := fw) ((Kd.R_reads' (Kd.R_after (ok := (fun k_ => some k_ ≠ (jF : Value).ownBlock ∧ k_ ≠ bb)) (Z140) hg hat)).2.2) KL27.out ((Kd.R_reads' (Kd.R_after (ok := (fun k_ => some k_ ≠ (jF : Value).ownBlock ∧ k_ ≠ bb)) (Z140) hg hat)).2.1)))
         have n6_ := Aside0.mk (ho)
         clear aJ
         clear aG
         clear e5
         clear HB
         clear HR166
         clear HR179
         clear iG
         have aJ := n0_
         have aG := n1_
         have e5 := n2_
         have HB := n3_
         have HR166 := n4_
         have HR179 := n5_
         have jc := n6_
         clear n0_ n1_ n2_ n3_ n4_ n5_ n6_
         clear ho hb hg hat
         refine hK.out _ _ ⟨(blk_cell aG.out 0).trans rfl, (blk_cell aG.out 1).trans rfl, (blk_cell aG.out 2).trans rfl⟩ (fun hHeld => ?_)
         clear hK K
         refine norm_ (a' := ?_) ?_ ?_
         rotate_left
         ·show Act.put _ (some 33) _ = _
          simp only [Act.put, List.setIfInBounds_toArray, List.set_cons_zero, List.set_cons_succ, i64_w, i32_w]
          rfl
         exact norm_ (Z158) (hCont (t3, qA, jF) _ ⟨hHeld, (Z163 jc), (Z127 e5), (Z127 aJ), (Z1 aG), (Z26)⟩)
        skip
        refine Kd.R_lit_step k90 _ 90 ?hg (N := 35) ?hd (xs := ([(⟨((rd_T90 l0 au).f0), ((rd_T90 l0 au).f1), ((rd_T90 l0 au).f2)⟩ : S90)] : List (S90))) (inner := [.int .i64 ((rd_T90 l0 au).f0), .int .i64 ((rd_T90 l0 au).f1), .int .i64 ((rd_T90 l0 au).f2)]) (ok := fun _ => True) (okp := fun _ => True) ?hr ?hp (fun _ hk => hk) trivial (Below.refl _ _) (Nat.le_refl _) (by simp) ?_; (case hd => rfl); (case hg => rfl); (case hr => exact Z110); (case hp => exact (Reps.c3 (show Kd.M k90 _ _ _ (⟨((rd_T90 l0 au).f0), ((rd_T90 l0 au).f1), ((rd_T90 l0 au).f2)⟩ : S90) [.int .i64 ((rd_T90 l0 au).f0), .int .i64 ((rd_T90 l0 au).f1), .int .i64 ((rd_T90 l0 au).f2)] from (k90_mkM _ _ _ (⟨((rd_T90 l0 au).f0), ((rd_T90 l0 au).f1), ((rd_T90 l0 au).f2)⟩ : S90) )) (Reps.none _ _)))
        intro jF pt ho29 hb hg_ hnew_
        clear hg_ hnew_
        (first | rw [← q0.out] at ho29 | (simp only [Int.reduceToNat] at ho29; rw [← q0.out] at ho29))
        have n0_ := Aside0.mk (Kd.R_elder' (Z2 aJ) (Kd.R_base ho29) hb)
        have n1_ := Aside0.mk (Kd.R_lower (Kd.R_newB (Kd.R_new' ho29 (Yd_ aJ)) (g := bb) (o := .cells #[.int .i64 ((rd_T90 l0 au).f0), .int .i64 ((rd_T90 l0 au).f1), .int .i64 ((rd_T90 l0 au).f2)] 90 (0, 0)) (Z1 aG)) (below_size (Z26)))
        have n2_ := Aside0.mk (Ye_ aG)
        have n3_ := Aside0.mk (Kd.C_below (Z39 HR166) hb)
        have n4_ := Aside0.mk (Kd.C_below (Z39 HR179) hb)
        have n5_ := Aside0.mk (below_step (Z26) hb)
        clear aJ
        clear aG
        clear HR166
        clear HR179
        clear HB
        have aJ := n0_
        have e5 := n1_
        have aG := n2_
        have HR166 := n3_
        have HR179 := n4_
        have HB := n5_
        clear n0_ n1_ n2_ n3_ n4_ n5_
        clear hb ho29
        refine hK.out _ _ ⟨(blk_cell aG.out 0).trans rfl, (blk_cell aG.out 1).trans rfl, (blk_cell aG.out 2).trans rfl⟩ (fun hHeld => ?_)
        clear hK K
        refine norm_ (a' := ?_) ?_ ?_
        rotate_left
        ·show Act.put _ (some 35) _ = _
         simp only [Act.put, List.setIfInBounds_toArray, List.set_cons_zero, List.set_cons_succ, i64_w, i32_w]
         rfl
        refine one_ (i := 0) (N := some 29) (N_ 13 1903) rfl rfl (one_of HT_.out (by kernel_rfl)) (by decide) (fun K hK => ?_)
        refine Kd.R_lit_step k90 _ 90 ?hg (N := 29) ?hd (xs := ([] : List (S90))) (inner := []) (ok := fun _ => True) (okp := fun _ => True) ?hr ?hp (fun _ hk => hk) trivial (Below.refl _ _) (Nat.le_refl _) (by simp) ?_; (case hd => rfl); (case hg => rfl); (case hr => exact Z110); (case hp => exact (Reps.none _ _))
        intro t3 nt ho31 hb hg_ hnew_
        clear hg_ hnew_
        (first | rw [← xD.out] at ho31 | (simp only [Int.reduceToNat] at ho31; rw [← xD.out] at ho31))
        have n0_ := Aside0.mk (Kd.R_elder' (Z2 aJ) (Kd.R_base ho31) hb)
        have n1_ := Aside0.mk (Kd.R_elder' (Z2 e5) (Kd.R_base ho31) hb)
        have n2_ := Aside0.mk (Kd.R_lower (Kd.R_newB (Kd.R_new' (Kd.R_new' ho31 (Yd_ aJ)) (Yd_ e5)) (g := bb) (o := .cells #[.int .i64 ((rd_T90 l0 au).f0), .int .i64 ((rd_T90 l0 au).f1), .int .i64 ((rd_T90 l0 au).f2)] 90 (0, 0)) (Z1 aG)) (below_size (Z26)))
        have n3_ := Aside0.mk (Ye_ aG)
        have n4_ := Aside0.mk (Kd.C_below (Z39 HR166) hb)
        have n5_ := Aside0.mk (Kd.C_below (Z39 HR179) hb)
        have n6_ := Aside0.mk (below_step (Z26) hb)
        clear aJ
        clear e5
        clear aG
        clear HR166
        clear HR179
        clear HB
        have aJ := n0_
        have e5 := n1_
        have iG := n2_
        have aG := n3_
        have HR166 := n4_
        have HR179 := n5_
        have HB := n6_
        clear n0_ n1_ n2_ n3_ n4_ n5_ n6_
        clear hb ho31
        refine hK.out _ _ ⟨(blk_cell aG.out 0).trans rfl, (blk_cell aG.out 1).trans rfl, (blk_cell aG.out 2).trans rfl⟩ (fun hHeld => ?_)
        clear hK K
        refine norm_ (a' := ?_) ?_ ?_
        rotate_left
        ·show Act.put _ (some 29) _ = _
         simp only [Act.put, List.setIfInBounds_toArray, List.set_cons_zero, List.set_cons_succ, i64_w, i32_w]
         rfl
        refine one_ (i := 4) (N := some 33) (N_ 13 1919) rfl rfl (one_of HT_.out (by kernel_rfl)) (by decide) (fun K hK => ?_)
        refine Kd.R_append_rows_step k90 (w0 := w) w.heap.size (by rfl) (.tmp 29) (.tmp 32) 42 90 (.agg #[(.int .i64 0), (.int .i64 0), (.int .i64 0)]) 24 rfl Try.underlying42 info90 rfl (by decide) (by omega) t3 mJ f6 _ _ _ (fun k_ => some k_ ≠ (.slice (some es) aX.length fw : Value).ownBlock ∧ some k_ ≠ (jF : Value).ownBlock ∧ k_ ≠ bb) (fun _ => False) rfl rfl ?aO ?aR (fun _ _ h => h) (fun _ h => h.elim) ?aF ?aB ?aS ?aL ?_
        (case aR => exact Z222)
        (case aB => exact Z26)
        (case aF => exact (fun k_ hk => ⟨Kd.fresh' (Yd_ aJ) k_ hk, Kd.fresh' (Yd_ e5) k_ hk, Kd.freshB (g := bb) (o := .cells #[.int .i64 ((rd_T90 l0 au).f0), .int .i64 ((rd_T90 l0 au).f1), .int .i64 ((rd_T90 l0 au).f2)] 90 (0, 0)) (Z1 aG) k_ hk⟩))
        (case aO => exact (Z268 iG))
        (case aS => exact (below_size (Z26)))
        (case aL => exact Z182 sB)
        intro qA B7 ho hb hg hat
        rw [← Bv.out] at ho
        have n0_ := Aside0.mk (Kd.R_after (ok := (fun k_ => some k_ ≠ (jF : Value).ownBlock ∧ k_ ≠ bb)) (Z141) hg hat)
        have n1_ := Aside0.mk (blk_grown (g := bb) (o := .cells #[.int .i64 ((rd_T90 l0 au).f0), .int .i64 ((rd_T90 l0 au).f1), .int .i64 ((rd_T90 l0 au).f2)] 90 (0, 0)) (Z1 aG) hg (Kd.R_away iG.out (fun _ hk => hk.2)))
        have n2_ := Aside0.mk (Kd.R_after (ok := (fun k_ => some k_ ≠ (.slice (some es) aX.length fw : Value).ownBlock ∧ k_ ≠ bb)) (Z269 e5) hg hat)
        have n3_ := Aside0.mk (hb)
        have n4_ := Aside0.mk ((show Kd.C k90 B7 (some es) f6.length f6 from by rw [ow.out]; exact Kd.C_take (m := (cD : Int).toNat) ((Kd.R_reads' (Kd.R_after (ok := (fun k_ => some k_ ≠ (jF : Value).ownBlock ∧ k_ ≠ bb)) (Z141) hg hat)).2.2) KL26.out))
        have n5_ := Aside0.mk ((show Kd.C k90 B7 Gk e3.length e3 from by rw [ox.out, yl.out]; exact Kd.C_drop (m := (cD : Int).toNat) (c := fw) ((Kd.R_reads' (Kd.R_after (ok := (fun k_ => some k_ ≠ (jF : Value).ownBlock ∧ k_ ≠ bb)) (Z141) hg hat)).2.2) KL27.out ((Kd.R_reads' (Kd.R_after (ok := (fun k_ => some k_ ≠ (jF : Value).ownBlock ∧ k_ ≠ bb)) (Z141) hg hat)).2.1)))
        have n6_ := Aside0.mk (ho)
        clear aJ
        clear aG
        clear e5
        clear HB
        clear HR166
        clear HR179
        clear iG
        have aJ := n0_
        have aG := n1_
        have e5 := n2_
        have HB := n3_
        have HR166 := n4_
        have HR179 := n5_
        have jc := n6_
        clear n0_ n1_ n2_ n3_ n4_ n5_ n6_
        clear ho hb hg hat
        refine hK.out _ _ ⟨(blk_cell aG.out 0).trans rfl, (blk_cell aG.out 1).trans rfl, (blk_cell aG.out 2).trans rfl⟩ (fun hHeld => ?_)
        clear hK K
        refine norm_ (a' := ?_) ?_ ?_
        rotate_left
        ·show Act.put _ (some 33) _ = _
         simp only [Act.put, List.setIfInBounds_toArray, List.set_cons_zero, List.set_cons_succ, i64_w, i32_w]
         rfl
        exact norm_ (Z158) (hCont (t3, qA, jF) _ ⟨hHeld, (Z163 jc), (Z127 e5), (Z127 aJ), (Z1 aG), (Z26)⟩)
       rintro ⟨t3, qA, jF⟩ u0 ⟨hS_, h0_, h1_, h2_, h3_, h4_⟩
       have n0_ : Aside0 (Kd.R k90 90 u0 w.heap.size (fun k_ => some k_ ≠ (jF : Value).ownBlock ∧ some k_ ≠ (.slice (some es) aX.length fw : Value).ownBlock ∧ k_ ≠ bb) qA iS) := ⟨h0_⟩
       have n1_ : Aside0 (Kd.R k90 90 u0 w.heap.size (fun k_ => some k_ ≠ (qA : Value).ownBlock ∧ some k_ ≠ (.slice (some es) aX.length fw : Value).ownBlock ∧ k_ ≠ bb) jF fV) := ⟨h1_⟩
       have n2_ : Aside0 (Kd.R k90 90 u0 w.heap.size (fun k_ => some k_ ≠ (qA : Value).ownBlock ∧ some k_ ≠ (jF : Value).ownBlock ∧ k_ ≠ bb) (.slice (some es) aX.length fw) aX) := ⟨h2_⟩
       have n3_ : Aside0 (u0.heap[bb]? = some (.cells #[.int .i64 ((rd_T90 l0 au).f0), .int .i64 ((rd_T90 l0 au).f1), .int .i64 ((rd_T90 l0 au).f2)] 90 (0, 0))) := ⟨h3_⟩
       have n4_ : Aside0 (Below w.heap.size w u0) := ⟨h4_⟩
       clear aJ
       clear aG
       clear HB
       clear h0_ h1_ h2_ h3_ h4_
       have jc := n0_
       have e5 := n1_
       have aJ := n2_
       have aG := n3_
       have HB := n4_
       clear n0_ n1_ n2_ n3_ n4_
       have hHeld : u0.cell? ⟨bb, 0, none⟩ = some (.int .i64 ((rd_T90 l0 au).f0)) ∧ u0.cell? ⟨bb, 1, none⟩ = some (.int .i64 ((rd_T90 l0 au).f1)) ∧ u0.cell? ⟨bb, 2, none⟩ = some (.int .i64 ((rd_T90 l0 au).f2)) := hS_
       have n_ := Aside0.mk (show Kd.C k90 _ (some es) f6.length f6 from by rw [ow.out]; exact Kd.C_take (m := (cD : Int).toNat) ((Kd.R_reads' aJ.out).2.2) KL26.out)
       (try clear HR166)
       have HR166 := n_
       clear n_
       have n_ := Aside0.mk (show Kd.C k90 _ Gk e3.length e3 from by rw [ox.out, yl.out]; exact Kd.C_drop (m := (cD : Int).toNat) (c := fw) ((Kd.R_reads' aJ.out).2.2) KL27.out ((Kd.R_reads' aJ.out).2.1))
       (try clear HR179)
       have HR179 := n_
       clear n_
       obtain ⟨qB, qC, Ih⟩ := Kd.R_slice e5.out
       (first | subst Ih | (injection Ih with f1_ f2_ f3_; have f4_ := f1_.symm; have f5_ := f3_.symm; clear f1_ f2_ f3_; subst f4_; subst f5_))
       refine norm_ (a' := ?_) ?_ ?_
       rotate_left
       ·simp only [putAll, Act.put, List.setIfInBounds_toArray, List.set_cons_zero, List.set_cons_succ]
        rfl
       refine one_ (i := 7) (N := some 36) (M_ 11 2) rfl rfl (one_of HT_.out (by kernel_rfl)) (by decide) (fun K hK => ?_)
       refine Kd.R_append_rows_step k90 (w0 := w) w.heap.size (by rfl) (.tmp 33) (.tmp 35) 42 90 (.agg #[(.int .i64 0), (.int .i64 0), (.int .i64 0)]) 24 rfl Try.underlying42 info90 rfl (by decide) (by omega) qA iS fV _ _ _ (fun k_ => some k_ ≠ (.slice (some es) aX.length fw : Value).ownBlock ∧ some k_ ≠ (.slice qB fV.length qC : Value).ownBlock ∧ k_ ≠ bb) (fun _ => False) rfl rfl ?aO ?aR (fun _ _ h => h) (fun _ h => h.elim) ?aF ?aB ?aS ?aL ?_
       (case aR => exact Z7 e5)
       (case aB => exact Z26)
       (case aF => exact (fun k_ hk => ⟨Kd.fresh' (Yd_ aJ) k_ hk, Kd.fresh' (Yd_ e5) k_ hk, Kd.freshB (g := bb) (o := .cells #[.int .i64 ((rd_T90 l0 au).f0), .int .i64 ((rd_T90 l0 au).f1), .int .i64 ((rd_T90 l0 au).f2)] 90 (0, 0)) (Z1 aG) k_ hk⟩))
       (case aO => exact (Z163 jc))
       (case aS => exact (below_size (Z26)))
       (case aL => exact Z182 LMc19)
       intro v174 Gg ho hb hg hat
       rw [← Ny173.out] at ho
       have n0_ := Aside0.mk (Kd.R_after (ok := (fun k_ => some k_ ≠ (.slice qB fV.length qC : Value).ownBlock ∧ k_ ≠ bb)) (Z128 aJ) hg hat)
       have n1_ := Aside0.mk (blk_grown (g := bb) (o := .cells #[.int .i64 ((rd_T90 l0 au).f0), .int .i64 ((rd_T90 l0 au).f1), .int .i64 ((rd_T90 l0 au).f2)] 90 (0, 0)) (Z1 aG) hg (Kd.R_away jc.out (fun _ hk => hk.2.2)))
       have n2_ := Aside0.mk (Kd.R_after (ok := (fun k_ => some k_ ≠ (.slice (some es) aX.length fw : Value).ownBlock ∧ k_ ≠ bb)) (Z128 e5) hg hat)
       have n3_ := Aside0.mk (hb)
       have n4_ := Aside0.mk ((show Kd.C k90 Gg (some es) f6.length f6 from by rw [ow.out]; exact Kd.C_take (m := (cD : Int).toNat) ((Kd.R_reads' (Kd.R_after (ok := (fun k_ => some k_ ≠ (.slice qB fV.length qC : Value).ownBlock ∧ k_ ≠ bb)) (Z128 aJ) hg hat)).2.2) KL26.out))
       have n5_ := Aside0.mk ((show Kd.C k90 Gg Gk e3.length e3 from by rw [ox.out, yl.out]; exact Kd.C_drop (m := (cD : Int).toNat) (c := fw) ((Kd.R_reads' (Kd.R_after (ok := (fun k_ => some k_ ≠ (.slice qB fV.length qC : Value).ownBlock ∧ k_ ≠ bb)) (Z128 aJ) hg hat)).2.2) KL27.out ((Kd.R_reads' (Kd.R_after (ok := (fun k_ => some k_ ≠ (.slice qB fV.length qC : Value).ownBlock ∧ k_ ≠ bb)) (Z128 aJ) hg hat)).2.1)))
       have n6_ := Aside0.mk (ho)
       clear aJ
       clear aG
       clear e5
       clear HB
       clear HR166
       clear HR179
       clear jc
       have aJ := n0_
       have aG := n1_
       have e5 := n2_
       have HB := n3_
       have HR166 := n4_
       have HR179 := n5_
       have Bw := n6_
       clear n0_ n1_ n2_ n3_ n4_ n5_ n6_
       clear ho hb hg hat
       refine hK.out _ _ ⟨(blk_cell aG.out 0).trans rfl, (blk_cell aG.out 1).trans rfl, (blk_cell aG.out 2).trans rfl⟩ (fun hHeld => ?_)
       clear hK K
       refine norm_ (a' := ?_) ?_ ?_
       rotate_left
       ·show Act.put _ (some 36) _ = _
        simp only [Act.put, List.setIfInBounds_toArray, List.set_cons_zero, List.set_cons_succ, i64_w, i32_w]
        rfl
       refine one_ (i := 11) (N := some 40) (M_ 12 1) rfl rfl (one_of HT_.out (by kernel_rfl)) (by decide) (fun K hK => ?_)
       refine Kd.R_append_rows_step k90 (w0 := w) w.heap.size (by rfl) (.tmp 36) (.tmp 39) 42 90 (.agg #[(.int .i64 0), (.int .i64 0), (.int .i64 0)]) 24 rfl Try.underlying42 info90 rfl (by decide) (by omega) v174 gP e3 _ _ _ (fun k_ => some k_ ≠ (.slice (some es) aX.length fw : Value).ownBlock ∧ some k_ ≠ (.slice qB fV.length qC : Value).ownBlock ∧ k_ ≠ bb) (fun _ => False) rfl rfl ?aO ?aR (fun _ _ h => h) (fun _ h => h.elim) ?aF ?aB ?aS ?aL ?_
       (case aR => repeat (first | exact (Z39 HR179) | (with_reducible refine Kd.C_alloc ?_ _) | (with_reducible refine Kd.C_drewN ?_ _) | (with_reducible refine Kd.C_drew ?_)))
       (case aB => exact Z26)
       (case aF => exact (fun k_ hk => ⟨Kd.fresh' (Yd_ aJ) k_ hk, Kd.fresh' (Yd_ e5) k_ hk, Kd.freshB (g := bb) (o := .cells #[.int .i64 ((rd_T90 l0 au).f0), .int .i64 ((rd_T90 l0 au).f1), .int .i64 ((rd_T90 l0 au).f2)] 90 (0, 0)) (Z1 aG) k_ hk⟩))
       (case aO => exact (Z2 Bw))
       (case aS => exact (below_size (Z26)))
       (case aL => exact Z182 LMc22)
       intro v181 Jv ho hb hg hat
       rw [← Ny180.out] at ho
       have n0_ := Aside0.mk (Kd.R_after (ok := (fun k_ => some k_ ≠ (.slice qB fV.length qC : Value).ownBlock ∧ k_ ≠ bb)) (Z2 aJ) hg hat)
       have n1_ := Aside0.mk (blk_grown (g := bb) (o := .cells #[.int .i64 ((rd_T90 l0 au).f0), .int .i64 ((rd_T90 l0 au).f1), .int .i64 ((rd_T90 l0 au).f2)] 90 (0, 0)) (Z1 aG) hg (Kd.R_away Bw.out (fun _ hk => hk.2.2)))
       have n2_ := Aside0.mk (Kd.R_after (ok := (fun k_ => some k_ ≠ (.slice (some es) aX.length fw : Value).ownBlock ∧ k_ ≠ bb)) (Z2 e5) hg hat)
       have n3_ := Aside0.mk (hb)
       have n4_ := Aside0.mk ((show Kd.C k90 Jv (some es) f6.length f6 from by rw [ow.out]; exact Kd.C_take (m := (cD : Int).toNat) ((Kd.R_reads' (Kd.R_after (ok := (fun k_ => some k_ ≠ (.slice qB fV.length qC : Value).ownBlock ∧ k_ ≠ bb)) (Z2 aJ) hg hat)).2.2) KL26.out))
       have n5_ := Aside0.mk ((show Kd.C k90 Jv Gk e3.length e3 from by rw [ox.out, yl.out]; exact Kd.C_drop (m := (cD : Int).toNat) (c := fw) ((Kd.R_reads' (Kd.R_after (ok := (fun k_ => some k_ ≠ (.slice qB fV.length qC : Value).ownBlock ∧ k_ ≠ bb)) (Z2 aJ) hg hat)).2.2) KL27.out ((Kd.R_reads' (Kd.R_after (ok := (fun k_ => some k_ ≠ (.slice qB fV.length qC : Value).ownBlock ∧ k_ ≠ bb)) (Z2 aJ) hg hat)).2.1)))
       have n6_ := Aside0.mk (ho)
       clear aJ
       clear aG
       clear e5
       clear HB
       clear HR166
       clear HR179
       clear Bw
       have aJ := n0_
       have aG := n1_
       have e5 := n2_
       have HB := n3_
       have HR166 := n4_
       have HR179 := n5_
       have HO182 := n6_
       clear n0_ n1_ n2_ n3_ n4_ n5_ n6_
       clear ho hb hg hat
       refine hK.out _ _ ⟨(blk_cell aG.out 0).trans rfl, (blk_cell aG.out 1).trans rfl, (blk_cell aG.out 2).trans rfl⟩ (fun hHeld => ?_)
       clear hK K
       refine norm_ (a' := ?_) ?_ ?_
       rotate_left
       ·show Act.put _ (some 40) _ = _
        simp only [Act.put, List.setIfInBounds_toArray, List.set_cons_zero, List.set_cons_succ, i64_w, i32_w]
        rfl
       refine pu_ 12 4 (M_ 13 0) ?_
       refine done_ (done_of HT_.out (by kernel_rfl)) ?_
       try go_wp2
       go_roundg k2
       case measure => have := HK1.out; have := HK2.out; omega
       case rel => exact ⟨(Ig), (wrap64 (au + 1)), (Z41), H', ⟨by have := HK1.out; have := HK2.out; omega⟩, ⟨Z47 HO182⟩, ⟨Z26⟩⟩
      rw [if_neg c8] at H
      have nY : decide (0 < cD) = false := decide_eq_false c8
      clear c8
      obtain ⟨oI, t4⟩ : ∃ y_ : List (S90), y_ = (([] : List (S90))) := ⟨_, rfl⟩
      replace H : (if 0 ≤ cD then (if cD ≤ (aX.length : Int) then ((some (aX.take (cD : Int).toNat : List (S90))).bind fun gA => (if oI.length + gA.length < 5864062014805 then ((some (oI ++ gA : List (S90))).bind fun jV => ((some (([(⟨((rd_T90 l0 au).f0), ((rd_T90 l0 au).f1), ((rd_T90 l0 au).f2)⟩ : S90)] : List (S90)) : List (S90))).bind fun gj => (if jV.length + gj.length < 5864062014805 then ((some (jV ++ gj : List (S90))).bind fun im => ((some (aX.drop (cD : Int).toNat : List (S90))).bind fun fu => (if im.length + fu.length < 5864062014805 then (spec_shSorted.l0 k2 (im ++ fu) l0 (l0.length : Int) (wrap64 (au + 1))) else (none)))) else (none)))) else (none))) else (none)) else (none)) = some (r1, r2) := hx_ t4 H
      have xE := Aside0.mk t4
      clear t4
      by_cases c37 : 0 ≤ cD
      case neg => rw [if_neg c37] at H; exact absurd H (by simp)
      rw [if_pos c37] at H
      have pR := eq_true c37
      have t5 : decide (0 ≤ cD) = true := decide_eq_true c37
      clear c37
      by_cases c38 : cD ≤ (aX.length : Int)
      case neg => rw [if_neg c38] at H; exact absurd H (by simp)
      rw [if_pos c38] at H
      have Ei := eq_true c38
      have c38b1 : decide (cD ≤ (aX.length : Int)) = true := decide_eq_true c38
      clear c38
      obtain ⟨gA, t6⟩ : ∃ y_ : List (S90), y_ = (aX.take (cD : Int).toNat) := ⟨_, rfl⟩
      replace H : (if oI.length + gA.length < 5864062014805 then ((some (oI ++ gA : List (S90))).bind fun jV => ((some (([(⟨((rd_T90 l0 au).f0), ((rd_T90 l0 au).f1), ((rd_T90 l0 au).f2)⟩ : S90)] : List (S90)) : List (S90))).bind fun gj => (if jV.length + gj.length < 5864062014805 then ((some (jV ++ gj : List (S90))).bind fun im => ((some (aX.drop (cD : Int).toNat : List (S90))).bind fun fu => (if im.length + fu.length < 5864062014805 then (spec_shSorted.l0 k2 (im ++ fu) l0 (l0.length : Int) (wrap64 (au + 1))) else (none)))) else (none)))) else (none)) = some (r1, r2) := hx_ t6 H
      have oy := Aside0.mk t6
      clear t6
      by_cases c39 : oI.length + gA.length < 5864062014805
      case neg => rw [if_neg c39] at H; exact absurd H (by simp)
      rw [if_pos c39] at H
      have pI := Aside0.mk c39
      clear c39
      obtain ⟨jV, t7⟩ : ∃ y_ : List (S90), y_ = (oI ++ gA) := ⟨_, rfl⟩
      replace H : ((some (([(⟨((rd_T90 l0 au).f0), ((rd_T90 l0 au).f1), ((rd_T90 l0 au).f2)⟩ : S90)] : List (S90)) : List (S90))).bind fun gj => (if jV.length + gj.length < 5864062014805 then ((some (jV ++ gj : List (S90))).bind fun im => ((some (aX.drop (cD : Int).toNat : List (S90))).bind fun fu => (if im.length + fu.length < 5864062014805 then (spec_shSorted.l0 k2 (im ++ fu) l0 (l0.length : Int) (wrap64 (au + 1))) else (none)))) else (none))) = some (r1, r2) := hx_ t7 H
      have Bx := Aside0.mk t7
      clear t7
      obtain ⟨gj, t8⟩ : ∃ y_ : List (S90), y_ = (([(⟨((rd_T90 l0 au).f0), ((rd_T90 l0 au).f1), ((rd_T90 l0 au).f2)⟩ : S90)] : List (S90))) := ⟨_, rfl⟩
      replace H : (if jV.length + gj.length < 5864062014805 then ((some (jV ++ gj : List (S90))).bind fun im => ((some (aX.drop (cD : Int).toNat : List (S90))).bind fun fu => (if im.length + fu.length < 5864062014805 then (spec_shSorted.l0 k2 (im ++ fu) l0 (l0.length : Int) (wrap64 (au + 1))) else (none)))) else (none)) = some (r1, r2) := hx_ t8 H
      have q5 := Aside0.mk t8
      clear t8
      by_cases c40 : jV.length + gj.length < 5864062014805
      case neg => rw [if_neg c40] at H; exact absurd H (by simp)
      rw [if_pos c40] at H
      have LMc40 := Aside0.mk c40
      clear c40
      obtain ⟨im, t9⟩ : ∃ y_ : List (S90), y_ = (jV ++ gj) := ⟨_, rfl⟩
      replace H : ((some (aX.drop (cD : Int).toNat : List (S90))).bind fun fu => (if im.length + fu.length < 5864062014805 then (spec_shSorted.l0 k2 (im ++ fu) l0 (l0.length : Int) (wrap64 (au + 1))) else (none))) = some (r1, r2) := hx_ t9 H
      have Ny196 := Aside0.mk t9
      clear t9
      have c41b0 := eq_true (of_decide_eq_true (Z21) : 0 ≤ cD)
      have Ad := eq_true (of_decide_eq_true (Z21) : cD ≤ (aX.length : Int))
      obtain ⟨fu, ua⟩ : ∃ y_ : List (S90), y_ = (aX.drop (cD : Int).toNat) := ⟨_, rfl⟩
      replace H : (if im.length + fu.length < 5864062014805 then (spec_shSorted.l0 k2 (im ++ fu) l0 (l0.length : Int) (wrap64 (au + 1))) else (none)) = some (r1, r2) := hx_ ua H
      have oz := Aside0.mk ua
      clear ua
      by_cases c43 : im.length + fu.length < 5864062014805
      case neg => rw [if_neg c43] at H; exact absurd H (by simp)
      rw [if_pos c43] at H
      have Bz := Aside0.mk c43
      clear c43
      obtain ⟨Ii, ub⟩ : ∃ y_ : List (S90), y_ = (im ++ fu) := ⟨_, rfl⟩
      replace H : (spec_shSorted.l0 k2 Ii l0 (l0.length : Int) (wrap64 (au + 1))) = some (r1, r2) := hx_ ub H
      have Ny203 := Aside0.mk ub
      clear ub
      have H' := Aside0.mk H
      clear H
      try go_wp2
      refine k3_ (Kd.R_drew aJ.out) (blk_drew aG.out) (below_drew1 HB.out) ?_
      clear aJ aG HB
      intro aJ aG HB
      refine start_ (n := 11) (S := fun w' => True) (ds := []) (M_ 0 11) (by kernel_rfl) rfl rfl trivial (fun hHeld => ?_); refine with_tabW spec_shSorted.tab6 spec_shSorted.bits6 (fun HT_ HW_ => ?_)
      generalize wr.drew = JB at aJ aG HB hHeld ⊢
      refine pu_ 0 16 (M_ 1 10) ?_
      refine pu_ 1 17 (M_ 2 9) ?_
      refine pu_ 2 18 (M_ 3 8) ?_
      refine pn_ 3 19 (M_ 4 7) ?_
      refine pn_ 4 20 (M_ 5 6) ?_
      refine pn_ 5 21 (M_ 6 5) ?_
      refine pn_ 6 22 (M_ 7 4) ?_
      refine pn_ 7 23 (M_ 8 3) ?_
      refine pn_ 8 24 (M_ 9 2) ?_
      refine pn_ 9 25 (M_ 10 1) ?_
      refine pu_ 10 26 (M_ 11 0) ?_
      refine done_ (done_of HT_.out (by kernel_rfl)) ?_
      try go_wp2
      refine k3_ (Kd.R_drew aJ.out) (blk_drew aG.out) (below_drew1 HB.out) ?_
      clear aJ aG HB
      intro aJ aG HB
      have Jw : (cD : Int) ≤ ((aX.length : Int) : Int) := of_decide_eq_true (Z21)
      obtain ⟨i046, hi046, _, hsz46, _⟩ := info_parts info90
      have hroom46 : aX.length ≤ fw := (Kd.R_reads' aJ.out).2.1
      have hC46 : Kd.C k90 _ hG aX.length aX := (Kd.R_reads' aJ.out).2.2
      have hcut46 := cut_to (P := Try.prog) 42 90 .i64 Try.underlying42 hi046 hG aX.length fw cD (of_decide_eq_true (Z21)) Jw hroom46
      have hr46 := Kd.C_take (m := (cD : Int).toNat) hC46 (by omega)
      have Gl : gA.length = (cD : Int).toNat := (Z263 oy)
      rw [← oy.out] at hr46
      rw [← Gl] at hcut46
      have HR189 := Aside0.mk hr46
      have HC189 := Aside0.mk (show gA.length ≤ fw from by omega)
      clear hr46 hC46 hroom46 hi046 hsz46
      have KY46 := Aside0.mk Gl
      clear Gl
      have KL46 := Aside0.mk (show (cD : Int).toNat ≤ aX.length from by omega)
      replace Jw := eq_true Jw
      have Jx : (cD : Int) ≤ ((aX.length : Int) : Int) := of_decide_eq_true (Z21)
      obtain ⟨i047, hi047, _, hsz47, _⟩ := info_parts info90
      have hroom47 : aX.length ≤ fw := (Kd.R_reads' aJ.out).2.1
      have hC47 : Kd.C k90 _ hG aX.length aX := (Kd.R_reads' aJ.out).2.2
      have q047 : (0 : Int) ≤ (cD : Int) := of_decide_eq_true (Z21)
      have hcut47 := cut_from (P := Try.prog) 42 90 .i64 Try.underlying42 hi047 3 hsz47 hG aX.length fw cD q047 Jx
      have hr47 := Kd.C_drop (m := (cD : Int).toNat) (c := fw) hC47 (by omega) hroom47
      obtain ⟨Gm, hA47⟩ : ∃ A1, A1 = (if fw = (cD : Int).toNat then hG else (hG : Option Addr).map (·.add ((cD : Int).toNat * 3))) := ⟨_, rfl⟩
      obtain ⟨c47, hc47⟩ : ∃ c1, c1 = fw - (cD : Int).toNat := ⟨_, rfl⟩
      have CR : fu.length = aX.length - (cD : Int).toNat := (by rw [oz.out, List.length_drop] <;> omega)
      rw [show (aX).drop (cD : Int).toNat = fu from oz.out.symm] at hr47
      replace hr47 : Kd.C k90 _ Gm fu.length fu := (by rw [hA47]; exact hr47)
      rw [← CR, ← hA47, ← hc47] at hcut47
      have HR202 := Aside0.mk hr47
      have HC202 := Aside0.mk (show fu.length ≤ c47 from by rw [CR, hc47]; exact Nat.sub_le_sub_right hroom47 _)
      clear hr47 hC47 hroom47 hi047 hsz47 hc47
      have KY47 := Aside0.mk CR
      have ym := Aside0.mk hA47
      clear CR hA47
      have KL47 := Aside0.mk (show (cD : Int).toNat ≤ aX.length from by omega)
      replace Jx := eq_true Jx
      refine start_ (n := 13) (S := fun w' => w'.cell? ⟨bb, 0, none⟩ = some (.int .i64 ((rd_T90 l0 au).f0)) ∧ w'.cell? ⟨bb, 1, none⟩ = some (.int .i64 ((rd_T90 l0 au).f1)) ∧ w'.cell? ⟨bb, 2, none⟩ = some (.int .i64 ((rd_T90 l0 au).f2))) (ds := []) (M_ 0 13) (by kernel_rfl) rfl rfl ⟨(blk_cell aG.out 0).trans rfl, (blk_cell aG.out 1).trans rfl, (blk_cell aG.out 2).trans rfl⟩ (fun hHeld => ?_); refine with_tabW spec_shSorted.tab8 spec_shSorted.bits8 (fun HT_ HW_ => ?_)
      generalize JB.drew = I4 at aJ aG HB HR189 HR202 hHeld ⊢
      refine pu_ 1 30 (N_ 13 2) ?_
      refine pu_ 2 31 (N_ 13 6) ?_
      refine pu_ 3 32 (N_ 13 14) ?_
      refine pu_ 8 37 (N_ 13 270) ?_
      refine pu_ 9 38 (N_ 13 782) ?_
      refine pu_ 10 39 (N_ 13 1806) ?_
      refine tk3_ 5 34 (N_ 13 1838) hHeld ?_
      refine join_ (σ := Value × Value × Value) 3 (N_ 13 1919) (fun s_ => [(29, s_.1), (33, s_.2.1), (35, s_.2.2)]) (fun s_ w' => (w'.cell? ⟨bb, 0, none⟩ = some (.int .i64 ((rd_T90 l0 au).f0)) ∧ w'.cell? ⟨bb, 1, none⟩ = some (.int .i64 ((rd_T90 l0 au).f1)) ∧ w'.cell? ⟨bb, 2, none⟩ = some (.int .i64 ((rd_T90 l0 au).f2))) ∧ (Kd.R k90 90 w' w.heap.size (fun k_ => some k_ ≠ (s_.2.2 : Value).ownBlock ∧ some k_ ≠ (.slice hG aX.length fw : Value).ownBlock ∧ k_ ≠ bb) s_.2.1 jV) ∧ (Kd.R k90 90 w' w.heap.size (fun k_ => some k_ ≠ (s_.2.1 : Value).ownBlock ∧ some k_ ≠ (.slice hG aX.length fw : Value).ownBlock ∧ k_ ≠ bb) s_.2.2 gj) ∧ (Kd.R k90 90 w' w.heap.size (fun k_ => some k_ ≠ (s_.2.1 : Value).ownBlock ∧ some k_ ≠ (s_.2.2 : Value).ownBlock ∧ k_ ≠ bb) (.slice hG aX.length fw) aX) ∧ (w'.heap[bb]? = some (.cells #[.int .i64 ((rd_T90 l0 au).f0), .int .i64 ((rd_T90 l0 au).f1), .int .i64 ((rd_T90 l0 au).f2)] 90 (0, 0))) ∧ (Below w.heap.size w w')) ?_ ?_
      rotate_left
      ·intro hCont
       refine two_ (i := 0) (j := 6) (Ni := some 29) (Nj := some 35) (N_ 13 1839) (N_ 13 1902) rfl rfl rfl rfl (two_of HT_.out (by kernel_rfl)) (by decide) (by decide) (fun K hK => ?_) (fun K hK => ?_)
       ·skip
        refine Kd.R_lit_step k90 _ 90 ?hg (N := 29) ?hd (xs := ([] : List (S90))) (inner := []) (ok := fun _ => True) (okp := fun _ => True) ?hr ?hp (fun _ hk => hk) trivial (Below.refl _ _) (Nat.le_refl _) (by simp) ?_; (case hd => rfl); (case hg => rfl); (case hr => exact Z110); (case hp => exact (Reps.none _ _))
        intro uc Jz ho49 hb hg_ hnew_
        clear hg_ hnew_
        (first | rw [← xE.out] at ho49 | (simp only [Int.reduceToNat] at ho49; rw [← xE.out] at ho49))
        have n0_ := Aside0.mk (Kd.R_elder' (Z2 aJ) (Kd.R_base ho49) hb)
        have n1_ := Aside0.mk (Kd.R_lower (Kd.R_newB (Kd.R_new' ho49 (Yd_ aJ)) (g := bb) (o := .cells #[.int .i64 ((rd_T90 l0 au).f0), .int .i64 ((rd_T90 l0 au).f1), .int .i64 ((rd_T90 l0 au).f2)] 90 (0, 0)) (Z1 aG)) (below_size (Z26)))
        have n2_ := Aside0.mk (Ye_ aG)
        have n3_ := Aside0.mk (Kd.C_below (Z39 HR189) hb)
        have n4_ := Aside0.mk (Kd.C_below (Z39 HR202) hb)
        have n5_ := Aside0.mk (below_step (Z26) hb)
        clear aJ
        clear aG
        clear HR189
        clear HR202
        clear HB
        have aJ := n0_
        have iH := n1_
        have aG := n2_
        have HR189 := n3_
        have HR202 := n4_
        have HB := n5_
        clear n0_ n1_ n2_ n3_ n4_ n5_
        clear hb ho49
        refine hK.out _ _ ⟨(blk_cell aG.out 0).trans rfl, (blk_cell aG.out 1).trans rfl, (blk_cell aG.out 2).trans rfl⟩ (fun hHeld => ?_)
        clear hK K
        refine norm_ (a' := ?_) ?_ ?_
        rotate_left
        ·show Act.put _ (some 29) _ = _
         simp only [Act.put, List.setIfInBounds_toArray, List.set_cons_zero, List.set_cons_succ, i64_w, i32_w]
         rfl
        refine two_ (i := 4) (j := 6) (Ni := some 33) (Nj := some 35) (N_ 13 1855) (N_ 13 1903) rfl rfl rfl rfl (two_of HT_.out (by kernel_rfl)) (by decide) (by decide) (fun K hK => ?_) (fun K hK => ?_)
        ·skip
         refine Kd.R_append_rows_step k90 (w0 := w) w.heap.size (by rfl) (.tmp 29) (.tmp 32) 42 90 (.agg #[(.int .i64 0), (.int .i64 0), (.int .i64 0)]) 24 rfl Try.underlying42 info90 rfl (by decide) (by omega) uc oI gA _ _ _ (fun k_ => some k_ ≠ (.slice hG aX.length fw : Value).ownBlock ∧ k_ ≠ bb) (fun _ => False) rfl rfl ?aO ?aR (fun _ _ h => h) (fun _ h => h.elim) ?aF ?aB ?aS ?aL ?_
         (case aR => exact Z223)
         (case aB => exact Z26)
         (case aF => exact (fun k_ hk => ⟨Kd.fresh' (Yd_ aJ) k_ hk, Kd.freshB (g := bb) (o := .cells #[.int .i64 ((rd_T90 l0 au).f0), .int .i64 ((rd_T90 l0 au).f1), .int .i64 ((rd_T90 l0 au).f2)] 90 (0, 0)) (Z1 aG) k_ hk⟩))
         (case aO => exact (Z175 iH))
         (case aS => exact (below_size (Z26)))
         (case aL => exact Z182 pI)
         intro qD Cz ho hb hg hat
         rw [← Bx.out] at ho
         have n0_ := Aside0.mk (Kd.R_after (ok := (fun k_ => k_ ≠ bb)) (Z2 aJ) hg hat)
         have n1_ := Aside0.mk (blk_grown (g := bb) (o := .cells #[.int .i64 ((rd_T90 l0 au).f0), .int .i64 ((rd_T90 l0 au).f1), .int .i64 ((rd_T90 l0 au).f2)] 90 (0, 0)) (Z1 aG) hg (Kd.R_away iH.out (fun _ hk => hk.2)))
         have n2_ := Aside0.mk (hb)
         have n3_ := Aside0.mk ((show Kd.C k90 Cz hG gA.length gA from by rw [oy.out]; exact Kd.C_take (m := (cD : Int).toNat) ((Kd.R_reads' (Kd.R_after (ok := (fun k_ => k_ ≠ bb)) (Z2 aJ) hg hat)).2.2) KL46.out))
         have n4_ := Aside0.mk ((show Kd.C k90 Cz Gm fu.length fu from by rw [oz.out, ym.out]; exact Kd.C_drop (m := (cD : Int).toNat) (c := fw) ((Kd.R_reads' (Kd.R_after (ok := (fun k_ => k_ ≠ bb)) (Z2 aJ) hg hat)).2.2) KL47.out ((Kd.R_reads' (Kd.R_after (ok := (fun k_ => k_ ≠ bb)) (Z2 aJ) hg hat)).2.1)))
         have n5_ := Aside0.mk (ho)
         clear aJ
         clear aG
         clear HB
         clear HR189
         clear HR202
         clear iH
         have aJ := n0_
         have aG := n1_
         have HB := n2_
         have HR189 := n3_
         have HR202 := n4_
         have jd := n5_
         clear n0_ n1_ n2_ n3_ n4_ n5_
         clear ho hb hg hat
         refine hK.out _ _ ⟨(blk_cell aG.out 0).trans rfl, (blk_cell aG.out 1).trans rfl, (blk_cell aG.out 2).trans rfl⟩ (fun hHeld => ?_)
         clear hK K
         refine norm_ (a' := ?_) ?_ ?_
         rotate_left
         ·show Act.put _ (some 33) _ = _
          simp only [Act.put, List.setIfInBounds_toArray, List.set_cons_zero, List.set_cons_succ, i64_w, i32_w]
          rfl
         refine one_ (i := 6) (N := some 35) (N_ 13 1919) rfl rfl (one_of HT_.out (by kernel_rfl)) (by decide) (fun K hK => ?_)
         refine Kd.R_lit_step k90 _ 90 ?hg (N := 35) ?hd (xs := ([(⟨((rd_T90 l0 au).f0), ((rd_T90 l0 au).f1), ((rd_T90 l0 au).f2)⟩ : S90)] : List (S90))) (inner := [.int .i64 ((rd_T90 l0 au).f0), .int .i64 ((rd_T90 l0 au).f1), .int .i64 ((rd_T90 l0 au).f2)]) (ok := fun _ => True) (okp := fun _ => True) ?hr ?hp (fun _ hk => hk) trivial (Below.refl _ _) (Nat.le_refl _) (by simp) ?_; (case hd => rfl); (case hg => rfl); (case hr => exact Z110); (case hp => exact (Reps.c3 (show Kd.M k90 _ _ _ (⟨((rd_T90 l0 au).f0), ((rd_T90 l0 au).f1), ((rd_T90 l0 au).f2)⟩ : S90) [.int .i64 ((rd_T90 l0 au).f0), .int .i64 ((rd_T90 l0 au).f1), .int .i64 ((rd_T90 l0 au).f2)] from (k90_mkM _ _ _ (⟨((rd_T90 l0 au).f0), ((rd_T90 l0 au).f1), ((rd_T90 l0 au).f2)⟩ : S90) )) (Reps.none _ _)))
         intro jG JC ho52 hb hg_ hnew_
         clear hg_ hnew_
         (first | rw [← q5.out] at ho52 | (simp only [Int.reduceToNat] at ho52; rw [← q5.out] at ho52))
         have n0_ := Aside0.mk (Kd.R_elder' (Z2 aJ) (Kd.R_base ho52) hb)
         have n1_ := Aside0.mk (Kd.R_elder' (Z2 jd) (Kd.R_base ho52) hb)
         have n2_ := Aside0.mk (Kd.R_lower (Kd.R_newB (Kd.R_new' (Kd.R_new' ho52 (Yd_ aJ)) (Yd_ jd)) (g := bb) (o := .cells #[.int .i64 ((rd_T90 l0 au).f0), .int .i64 ((rd_T90 l0 au).f1), .int .i64 ((rd_T90 l0 au).f2)] 90 (0, 0)) (Z1 aG)) (below_size (Z26)))
         have n3_ := Aside0.mk (Ye_ aG)
         have n4_ := Aside0.mk (Kd.C_below (Z39 HR189) hb)
         have n5_ := Aside0.mk (Kd.C_below (Z39 HR202) hb)
         have n6_ := Aside0.mk (below_step (Z26) hb)
         clear aJ
         clear jd
         clear aG
         clear HR189
         clear HR202
         clear HB
         have aJ := n0_
         have jd := n1_
         have e6 := n2_
         have aG := n3_
         have HR189 := n4_
         have HR202 := n5_
         have HB := n6_
         clear n0_ n1_ n2_ n3_ n4_ n5_ n6_
         clear hb ho52
         refine hK.out _ _ ⟨(blk_cell aG.out 0).trans rfl, (blk_cell aG.out 1).trans rfl, (blk_cell aG.out 2).trans rfl⟩ (fun hHeld => ?_)
         clear hK K
         refine norm_ (a' := ?_) ?_ ?_
         rotate_left
         ·show Act.put _ (some 35) _ = _
          simp only [Act.put, List.setIfInBounds_toArray, List.set_cons_zero, List.set_cons_succ, i64_w, i32_w]
          rfl
         exact norm_ (Z158) (hCont (uc, qD, jG) _ ⟨hHeld, (Z127 jd), (Z265 e6), (Z250), (Z1 aG), (Z26)⟩)
        skip
        refine Kd.R_lit_step k90 _ 90 ?hg (N := 35) ?hd (xs := ([(⟨((rd_T90 l0 au).f0), ((rd_T90 l0 au).f1), ((rd_T90 l0 au).f2)⟩ : S90)] : List (S90))) (inner := [.int .i64 ((rd_T90 l0 au).f0), .int .i64 ((rd_T90 l0 au).f1), .int .i64 ((rd_T90 l0 au).f2)]) (ok := fun _ => True) (okp := fun _ => True) ?hr ?hp (fun _ hk => hk) trivial (Below.refl _ _) (Nat.le_refl _) (by simp) ?_; (case hd => rfl); (case hg => rfl); (case hr => exact Z110); (case hp => exact (Reps.c3 (show Kd.M k90 _ _ _ (⟨((rd_T90 l0 au).f0), ((rd_T90 l0 au).f1), ((rd_T90 l0 au).f2)⟩ : S90) [.int .i64 ((rd_T90 l0 au).f0), .int .i64 ((rd_T90 l0 au).f1), .int .i64 ((rd_T90 l0 au).f2)] from (k90_mkM _ _ _ (⟨((rd_T90 l0 au).f0), ((rd_T90 l0 au).f1), ((rd_T90 l0 au).f2)⟩ : S90) )) (Reps.none _ _)))
        intro jG Cz ho51 hb hg_ hnew_
        clear hg_ hnew_
        (first | rw [← q5.out] at ho51 | (simp only [Int.reduceToNat] at ho51; rw [← q5.out] at ho51))
        have n0_ := Aside0.mk (Kd.R_elder' (Z2 aJ) (Kd.R_base ho51) hb)
        have n1_ := Aside0.mk (Kd.R_elder' (Z2 iH) (Kd.R_base ho51) hb)
        have n2_ := Aside0.mk (Kd.R_lower (Kd.R_newB (Kd.R_new' (Kd.R_new' ho51 (Yd_ aJ)) (Yd_ iH)) (g := bb) (o := .cells #[.int .i64 ((rd_T90 l0 au).f0), .int .i64 ((rd_T90 l0 au).f1), .int .i64 ((rd_T90 l0 au).f2)] 90 (0, 0)) (Z1 aG)) (below_size (Z26)))
        have n3_ := Aside0.mk (Ye_ aG)
        have n4_ := Aside0.mk (Kd.C_below (Z39 HR189) hb)
        have n5_ := Aside0.mk (Kd.C_below (Z39 HR202) hb)
        have n6_ := Aside0.mk (below_step (Z26) hb)
        clear aJ
        clear iH
        clear aG
        clear HR189
        clear HR202
        clear HB
        have aJ := n0_
        have iH := n1_
        have e6 := n2_
        have aG := n3_
        have HR189 := n4_
        have HR202 := n5_
        have HB := n6_
        clear n0_ n1_ n2_ n3_ n4_ n5_ n6_
        clear hb ho51
        refine hK.out _ _ ⟨(blk_cell aG.out 0).trans rfl, (blk_cell aG.out 1).trans rfl, (blk_cell aG.out 2).trans rfl⟩ (fun hHeld => ?_)
        clear hK K
        refine norm_ (a' := ?_) ?_ ?_
        rotate_left
        ·show Act.put _ (some 35) _ = _
         simp only [Act.put, List.setIfInBounds_toArray, List.set_cons_zero, List.set_cons_succ, i64_w, i32_w]
         rfl
        refine one_ (i := 4) (N := some 33) (N_ 13 1919) rfl rfl (one_of HT_.out (by kernel_rfl)) (by decide) (fun K hK => ?_)
        refine Kd.R_append_rows_step k90 (w0 := w) w.heap.size (by rfl) (.tmp 29) (.tmp 32) 42 90 (.agg #[(.int .i64 0), (.int .i64 0), (.int .i64 0)]) 24 rfl Try.underlying42 info90 rfl (by decide) (by omega) uc oI gA _ _ _ (fun k_ => some k_ ≠ (.slice hG aX.length fw : Value).ownBlock ∧ some k_ ≠ (jG : Value).ownBlock ∧ k_ ≠ bb) (fun _ => False) rfl rfl ?aO ?aR (fun _ _ h => h) (fun _ h => h.elim) ?aF ?aB ?aS ?aL ?_
        (case aR => exact Z223)
        (case aB => exact Z26)
        (case aF => exact (fun k_ hk => ⟨Kd.fresh' (Yd_ aJ) k_ hk, Kd.fresh' (Yd_ e6) k_ hk, Kd.freshB (g := bb) (o := .cells #[.int .i64 ((rd_T90 l0 au).f0), .int .i64 ((rd_T90 l0 au).f1), .int .i64 ((rd_T90 l0 au).f2)] 90 (0, 0)) (Z1 aG) k_ hk⟩))
        (case aO => exact (Z266 iH))
        (case aS => exact (below_size (Z26)))
        (case aL => exact Z182 pI)
        intro qD Ij ho hb hg hat
        rw [← Bx.out] at ho
        have n0_ := Aside0.mk (Kd.R_after (ok := (fun k_ => some k_ ≠ (jG : Value).ownBlock ∧ k_ ≠ bb)) (Z140) hg hat)
        have n1_ := Aside0.mk (blk_grown (g := bb) (o := .cells #[.int .i64 ((rd_T90 l0 au).f0), .int .i64 ((rd_T90 l0 au).f1), .int .i64 ((rd_T90 l0 au).f2)] 90 (0, 0)) (Z1 aG) hg (Kd.R_away iH.out (fun _ hk => hk.1.2)))
        have n2_ := Aside0.mk (Kd.R_after (ok := (fun k_ => some k_ ≠ (.slice hG aX.length fw : Value).ownBlock ∧ k_ ≠ bb)) (Z267 e6) hg hat)
        have n3_ := Aside0.mk (hb)
        have n4_ := Aside0.mk ((show Kd.C k90 Ij hG gA.length gA from by rw [oy.out]; exact Kd.C_take (m := (cD : Int).toNat) ((Kd.R_reads' (Kd.R_after (ok := (fun k_ => some k_ ≠ (jG : Value).ownBlock ∧ k_ ≠ bb)) (Z140) hg hat)).2.2) KL46.out))
        have n5_ := Aside0.mk ((show Kd.C k90 Ij Gm fu.length fu from by rw [oz.out, ym.out]; exact Kd.C_drop (m := (cD : Int).toNat) (c := fw) ((Kd.R_reads' (Kd.R_after (ok := (fun k_ => some k_ ≠ (jG : Value).ownBlock ∧ k_ ≠ bb)) (Z140) hg hat)).2.2) KL47.out ((Kd.R_reads' (Kd.R_after (ok := (fun k_ => some k_ ≠ (jG : Value).ownBlock ∧ k_ ≠ bb)) (Z140) hg hat)).2.1)))
        have n6_ := Aside0.mk (ho)
        clear aJ
        clear aG
        clear e6
        clear HB
        clear HR189
        clear HR202
        clear iH
        have aJ := n0_
        have aG := n1_
        have e6 := n2_
        have HB := n3_
        have HR189 := n4_
        have HR202 := n5_
        have jd := n6_
        clear n0_ n1_ n2_ n3_ n4_ n5_ n6_
        clear ho hb hg hat
        refine hK.out _ _ ⟨(blk_cell aG.out 0).trans rfl, (blk_cell aG.out 1).trans rfl, (blk_cell aG.out 2).trans rfl⟩ (fun hHeld => ?_)
        clear hK K
        refine norm_ (a' := ?_) ?_ ?_
        rotate_left
        ·show Act.put _ (some 33) _ = _
         simp only [Act.put, List.setIfInBounds_toArray, List.set_cons_zero, List.set_cons_succ, i64_w, i32_w]
         rfl
        exact norm_ (Z158) (hCont (uc, qD, jG) _ ⟨hHeld, (Z163 jd), (Z127 e6), (Z127 aJ), (Z1 aG), (Z26)⟩)
       skip
       refine Kd.R_lit_step k90 _ 90 ?hg (N := 35) ?hd (xs := ([(⟨((rd_T90 l0 au).f0), ((rd_T90 l0 au).f1), ((rd_T90 l0 au).f2)⟩ : S90)] : List (S90))) (inner := [.int .i64 ((rd_T90 l0 au).f0), .int .i64 ((rd_T90 l0 au).f1), .int .i64 ((rd_T90 l0 au).f2)]) (ok := fun _ => True) (okp := fun _ => True) ?hr ?hp (fun _ hk => hk) trivial (Below.refl _ _) (Nat.le_refl _) (by simp) ?_; (case hd => rfl); (case hg => rfl); (case hr => exact Z110); (case hp => exact (Reps.c3 (show Kd.M k90 _ _ _ (⟨((rd_T90 l0 au).f0), ((rd_T90 l0 au).f1), ((rd_T90 l0 au).f2)⟩ : S90) [.int .i64 ((rd_T90 l0 au).f0), .int .i64 ((rd_T90 l0 au).f1), .int .i64 ((rd_T90 l0 au).f2)] from (k90_mkM _ _ _ (⟨((rd_T90 l0 au).f0), ((rd_T90 l0 au).f1), ((rd_T90 l0 au).f2)⟩ : S90) )) (Reps.none _ _)))
       intro jG Jz ho49 hb hg_ hnew_
       clear hg_ hnew_
       (first | rw [← q5.out] at ho49 | (simp only [Int.reduceToNat] at ho49; rw [← q5.out] at ho49))
       have n0_ := Aside0.mk (Kd.R_elder' (Z2 aJ) (Kd.R_base ho49) hb)
       have n1_ := Aside0.mk (Kd.R_lower (Kd.R_newB (Kd.R_new' ho49 (Yd_ aJ)) (g := bb) (o := .cells #[.int .i64 ((rd_T90 l0 au).f0), .int .i64 ((rd_T90 l0 au).f1), .int .i64 ((rd_T90 l0 au).f2)] 90 (0, 0)) (Z1 aG)) (below_size (Z26)))
       have n2_ := Aside0.mk (Ye_ aG)
       have n3_ := Aside0.mk (Kd.C_below (Z39 HR189) hb)
       have n4_ := Aside0.mk (Kd.C_below (Z39 HR202) hb)
       have n5_ := Aside0.mk (below_step (Z26) hb)
       clear aJ
       clear aG
       clear HR189
       clear HR202
       clear HB
       have aJ := n0_
       have e6 := n1_
       have aG := n2_
       have HR189 := n3_
       have HR202 := n4_
       have HB := n5_
       clear n0_ n1_ n2_ n3_ n4_ n5_
       clear hb ho49
       refine hK.out _ _ ⟨(blk_cell aG.out 0).trans rfl, (blk_cell aG.out 1).trans rfl, (blk_cell aG.out 2).trans rfl⟩ (fun hHeld => ?_)
       clear hK K
       refine norm_ (a' := ?_) ?_ ?_
       rotate_left
       ·show Act.put _ (some 35) _ = _
        simp only [Act.put, List.setIfInBounds_toArray, List.set_cons_zero, List.set_cons_succ, i64_w, i32_w]
        rfl
       refine one_ (i := 0) (N := some 29) (N_ 13 1903) rfl rfl (one_of HT_.out (by kernel_rfl)) (by decide) (fun K hK => ?_)
       refine Kd.R_lit_step k90 _ 90 ?hg (N := 29) ?hd (xs := ([] : List (S90))) (inner := []) (ok := fun _ => True) (okp := fun _ => True) ?hr ?hp (fun _ hk => hk) trivial (Below.refl _ _) (Nat.le_refl _) (by simp) ?_; (case hd => rfl); (case hg => rfl); (case hr => exact Z110); (case hp => exact (Reps.none _ _))
       intro uc Cz ho51 hb hg_ hnew_
       clear hg_ hnew_
       (first | rw [← xE.out] at ho51 | (simp only [Int.reduceToNat] at ho51; rw [← xE.out] at ho51))
       have n0_ := Aside0.mk (Kd.R_elder' (Z2 aJ) (Kd.R_base ho51) hb)
       have n1_ := Aside0.mk (Kd.R_elder' (Z2 e6) (Kd.R_base ho51) hb)
       have n2_ := Aside0.mk (Kd.R_lower (Kd.R_newB (Kd.R_new' (Kd.R_new' ho51 (Yd_ aJ)) (Yd_ e6)) (g := bb) (o := .cells #[.int .i64 ((rd_T90 l0 au).f0), .int .i64 ((rd_T90 l0 au).f1), .int .i64 ((rd_T90 l0 au).f2)] 90 (0, 0)) (Z1 aG)) (below_size (Z26)))
       have n3_ := Aside0.mk (Ye_ aG)
       have n4_ := Aside0.mk (Kd.C_below (Z39 HR189) hb)
       have n5_ := Aside0.mk (Kd.C_below (Z39 HR202) hb)
       have n6_ := Aside0.mk (below_step (Z26) hb)
       clear aJ
       clear e6
       clear aG
       clear HR189
       clear HR202
       clear HB
       have aJ := n0_
       have e6 := n1_
       have iH := n2_
       have aG := n3_
       have HR189 := n4_
       have HR202 := n5_
       have HB := n6_
       clear n0_ n1_ n2_ n3_ n4_ n5_ n6_
       clear hb ho51
       refine hK.out _ _ ⟨(blk_cell aG.out 0).trans rfl, (blk_cell aG.out 1).trans rfl, (blk_cell aG.out 2).trans rfl⟩ (fun hHeld => ?_)
       clear hK K
       refine norm_ (a' := ?_) ?_ ?_
       rotate_left
       ·show Act.put _ (some 29) _ = _
        simp only [Act.put, List.setIfInBounds_toArray, List.set_cons_zero, List.set_cons_succ, i64_w, i32_w]
        rfl
       refine one_ (i := 4) (N := some 33) (N_ 13 1919) rfl rfl (one_of HT_.out (by kernel_rfl)) (by decide) (fun K hK => ?_)
       refine Kd.R_append_rows_step k90 (w0 := w) w.heap.size (by rfl) (.tmp 29) (.tmp 32) 42 90 (.agg #[(.int .i64 0), (.int .i64 0), (.int .i64 0)]) 24 rfl Try.underlying42 info90 rfl (by decide) (by omega) uc oI gA _ _ _ (fun k_ => some k_ ≠ (.slice hG aX.length fw : Value).ownBlock ∧ some k_ ≠ (jG : Value).ownBlock ∧ k_ ≠ bb) (fun _ => False) rfl rfl ?aO ?aR (fun _ _ h => h) (fun _ h => h.elim) ?aF ?aB ?aS ?aL ?_
       (case aR => exact Z223)
       (case aB => exact Z26)
       (case aF => exact (fun k_ hk => ⟨Kd.fresh' (Yd_ aJ) k_ hk, Kd.fresh' (Yd_ e6) k_ hk, Kd.freshB (g := bb) (o := .cells #[.int .i64 ((rd_T90 l0 au).f0), .int .i64 ((rd_T90 l0 au).f1), .int .i64 ((rd_T90 l0 au).f2)] 90 (0, 0)) (Z1 aG) k_ hk⟩))
       (case aO => exact (Z268 iH))
       (case aS => exact (below_size (Z26)))
       (case aL => exact Z182 pI)
       intro qD Ij ho hb hg hat
       rw [← Bx.out] at ho
       have n0_ := Aside0.mk (Kd.R_after (ok := (fun k_ => some k_ ≠ (jG : Value).ownBlock ∧ k_ ≠ bb)) (Z141) hg hat)
       have n1_ := Aside0.mk (blk_grown (g := bb) (o := .cells #[.int .i64 ((rd_T90 l0 au).f0), .int .i64 ((rd_T90 l0 au).f1), .int .i64 ((rd_T90 l0 au).f2)] 90 (0, 0)) (Z1 aG) hg (Kd.R_away iH.out (fun _ hk => hk.2)))
       have n2_ := Aside0.mk (Kd.R_after (ok := (fun k_ => some k_ ≠ (.slice hG aX.length fw : Value).ownBlock ∧ k_ ≠ bb)) (Z269 e6) hg hat)
       have n3_ := Aside0.mk (hb)
       have n4_ := Aside0.mk ((show Kd.C k90 Ij hG gA.length gA from by rw [oy.out]; exact Kd.C_take (m := (cD : Int).toNat) ((Kd.R_reads' (Kd.R_after (ok := (fun k_ => some k_ ≠ (jG : Value).ownBlock ∧ k_ ≠ bb)) (Z141) hg hat)).2.2) KL46.out))
       have n5_ := Aside0.mk ((show Kd.C k90 Ij Gm fu.length fu from by rw [oz.out, ym.out]; exact Kd.C_drop (m := (cD : Int).toNat) (c := fw) ((Kd.R_reads' (Kd.R_after (ok := (fun k_ => some k_ ≠ (jG : Value).ownBlock ∧ k_ ≠ bb)) (Z141) hg hat)).2.2) KL47.out ((Kd.R_reads' (Kd.R_after (ok := (fun k_ => some k_ ≠ (jG : Value).ownBlock ∧ k_ ≠ bb)) (Z141) hg hat)).2.1)))
       have n6_ := Aside0.mk (ho)
       clear aJ
       clear aG
       clear e6
       clear HB
       clear HR189
       clear HR202
       clear iH
       have aJ := n0_
       have aG := n1_
       have e6 := n2_
       have HB := n3_
       have HR189 := n4_
       have HR202 := n5_
       have jd := n6_
       clear n0_ n1_ n2_ n3_ n4_ n5_ n6_
       clear ho hb hg hat
       refine hK.out _ _ ⟨(blk_cell aG.out 0).trans rfl, (blk_cell aG.out 1).trans rfl, (blk_cell aG.out 2).trans rfl⟩ (fun hHeld => ?_)
       clear hK K
       refine norm_ (a' := ?_) ?_ ?_
       rotate_left
       ·show Act.put _ (some 33) _ = _
        simp only [Act.put, List.setIfInBounds_toArray, List.set_cons_zero, List.set_cons_succ, i64_w, i32_w]
        rfl
       exact norm_ (Z158) (hCont (uc, qD, jG) _ ⟨hHeld, (Z163 jd), (Z127 e6), (Z127 aJ), (Z1 aG), (Z26)⟩)
      rintro ⟨uc, qD, jG⟩ CA ⟨hS_, h0_, h1_, h2_, h3_, h4_⟩
      have n0_ : Aside0 (Kd.R k90 90 CA w.heap.size (fun k_ => some k_ ≠ (jG : Value).ownBlock ∧ some k_ ≠ (.slice hG aX.length fw : Value).ownBlock ∧ k_ ≠ bb) qD jV) := ⟨h0_⟩
      have n1_ : Aside0 (Kd.R k90 90 CA w.heap.size (fun k_ => some k_ ≠ (qD : Value).ownBlock ∧ some k_ ≠ (.slice hG aX.length fw : Value).ownBlock ∧ k_ ≠ bb) jG gj) := ⟨h1_⟩
      have n2_ : Aside0 (Kd.R k90 90 CA w.heap.size (fun k_ => some k_ ≠ (qD : Value).ownBlock ∧ some k_ ≠ (jG : Value).ownBlock ∧ k_ ≠ bb) (.slice hG aX.length fw) aX) := ⟨h2_⟩
      have n3_ : Aside0 (CA.heap[bb]? = some (.cells #[.int .i64 ((rd_T90 l0 au).f0), .int .i64 ((rd_T90 l0 au).f1), .int .i64 ((rd_T90 l0 au).f2)] 90 (0, 0))) := ⟨h3_⟩
      have n4_ : Aside0 (Below w.heap.size w CA) := ⟨h4_⟩
      clear aJ
      clear aG
      clear HB
      clear h0_ h1_ h2_ h3_ h4_
      have jd := n0_
      have e6 := n1_
      have aJ := n2_
      have aG := n3_
      have HB := n4_
      clear n0_ n1_ n2_ n3_ n4_
      have hHeld : CA.cell? ⟨bb, 0, none⟩ = some (.int .i64 ((rd_T90 l0 au).f0)) ∧ CA.cell? ⟨bb, 1, none⟩ = some (.int .i64 ((rd_T90 l0 au).f1)) ∧ CA.cell? ⟨bb, 2, none⟩ = some (.int .i64 ((rd_T90 l0 au).f2)) := hS_
      have n_ := Aside0.mk (show Kd.C k90 _ hG gA.length gA from by rw [oy.out]; exact Kd.C_take (m := (cD : Int).toNat) ((Kd.R_reads' aJ.out).2.2) KL46.out)
      (try clear HR189)
      have HR189 := n_
      clear n_
      have n_ := Aside0.mk (show Kd.C k90 _ Gm fu.length fu from by rw [oz.out, ym.out]; exact Kd.C_drop (m := (cD : Int).toNat) (c := fw) ((Kd.R_reads' aJ.out).2.2) KL47.out ((Kd.R_reads' aJ.out).2.1))
      (try clear HR202)
      have HR202 := n_
      clear n_
      obtain ⟨qE, qF, Ik⟩ := Kd.R_slice e6.out
      (first | subst Ik | (injection Ik with f1_ f2_ f3_; have f4_ := f1_.symm; have f5_ := f3_.symm; clear f1_ f2_ f3_; subst f4_; subst f5_))
      refine norm_ (a' := ?_) ?_ ?_
      rotate_left
      ·simp only [putAll, Act.put, List.setIfInBounds_toArray, List.set_cons_zero, List.set_cons_succ]
       rfl
      refine one_ (i := 7) (N := some 36) (M_ 11 2) rfl rfl (one_of HT_.out (by kernel_rfl)) (by decide) (fun K hK => ?_)
      refine Kd.R_append_rows_step k90 (w0 := w) w.heap.size (by rfl) (.tmp 33) (.tmp 35) 42 90 (.agg #[(.int .i64 0), (.int .i64 0), (.int .i64 0)]) 24 rfl Try.underlying42 info90 rfl (by decide) (by omega) qD jV gj _ _ _ (fun k_ => some k_ ≠ (.slice hG aX.length fw : Value).ownBlock ∧ some k_ ≠ (.slice qE gj.length qF : Value).ownBlock ∧ k_ ≠ bb) (fun _ => False) rfl rfl ?aO ?aR (fun _ _ h => h) (fun _ h => h.elim) ?aF ?aB ?aS ?aL ?_
      (case aR => exact Z7 e6)
      (case aB => exact Z26)
      (case aF => exact (fun k_ hk => ⟨Kd.fresh' (Yd_ aJ) k_ hk, Kd.fresh' (Yd_ e6) k_ hk, Kd.freshB (g := bb) (o := .cells #[.int .i64 ((rd_T90 l0 au).f0), .int .i64 ((rd_T90 l0 au).f1), .int .i64 ((rd_T90 l0 au).f2)] 90 (0, 0)) (Z1 aG) k_ hk⟩))
      (case aO => exact (Z163 jd))
      (case aS => exact (below_size (Z26)))
      (case aL => exact Z182 LMc40)
      intro v197 I0 ho hb hg hat
      rw [← Ny196.out] at ho
      have n0_ := Aside0.mk (Kd.R_after (ok := (fun k_ => some k_ ≠ (.slice qE gj.length qF : Value).ownBlock ∧ k_ ≠ bb)) (Z128 aJ) hg hat)
      have n1_ := Aside0.mk (blk_grown (g := bb) (o := .cells #[.int .i64 ((rd_T90 l0 au).f0), .int .i64 ((rd_T90 l0 au).f1), .int .i64 ((rd_T90 l0 au).f2)] 90 (0, 0)) (Z1 aG) hg (Kd.R_away jd.out (fun _ hk => hk.2.2)))
      have n2_ := Aside0.mk (Kd.R_after (ok := (fun k_ => some k_ ≠ (.slice hG aX.length fw : Value).ownBlock ∧ k_ ≠ bb)) (Z128 e6) hg hat)
      have n3_ := Aside0.mk (hb)
      have n4_ := Aside0.mk ((show Kd.C k90 I0 hG gA.length gA from by rw [oy.out]; exact Kd.C_take (m := (cD : Int).toNat) ((Kd.R_reads' (Kd.R_after (ok := (fun k_ => some k_ ≠ (.slice qE gj.length qF : Value).ownBlock ∧ k_ ≠ bb)) (Z128 aJ) hg hat)).2.2) KL46.out))
      have n5_ := Aside0.mk ((show Kd.C k90 I0 Gm fu.length fu from by rw [oz.out, ym.out]; exact Kd.C_drop (m := (cD : Int).toNat) (c := fw) ((Kd.R_reads' (Kd.R_after (ok := (fun k_ => some k_ ≠ (.slice qE gj.length qF : Value).ownBlock ∧ k_ ≠ bb)) (Z128 aJ) hg hat)).2.2) KL47.out ((Kd.R_reads' (Kd.R_after (ok := (fun k_ => some k_ ≠ (.slice qE gj.length qF : Value).ownBlock ∧ k_ ≠ bb)) (Z128 aJ) hg hat)).2.1)))
      have n6_ := Aside0.mk (ho)
      clear aJ
      clear aG
      clear e6
      clear HB
      clear HR189
      clear HR202
      clear jd
      have aJ := n0_
      have aG := n1_
      have e6 := n2_
      have HB := n3_
      have HR189 := n4_
      have HR202 := n5_
      have BA := n6_
      clear n0_ n1_ n2_ n3_ n4_ n5_ n6_
      clear ho hb hg hat
      refine hK.out _ _ ⟨(blk_cell aG.out 0).trans rfl, (blk_cell aG.out 1).trans rfl, (blk_cell aG.out 2).trans rfl⟩ (fun hHeld => ?_)
      clear hK K
      refine norm_ (a' := ?_) ?_ ?_
      rotate_left
      ·show Act.put _ (some 36) _ = _
       simp only [Act.put, List.setIfInBounds_toArray, List.set_cons_zero, List.set_cons_succ, i64_w, i32_w]
       rfl
      refine one_ (i := 11) (N := some 40) (M_ 12 1) rfl rfl (one_of HT_.out (by kernel_rfl)) (by decide) (fun K hK => ?_)
      refine Kd.R_append_rows_step k90 (w0 := w) w.heap.size (by rfl) (.tmp 36) (.tmp 39) 42 90 (.agg #[(.int .i64 0), (.int .i64 0), (.int .i64 0)]) 24 rfl Try.underlying42 info90 rfl (by decide) (by omega) v197 im fu _ _ _ (fun k_ => some k_ ≠ (.slice hG aX.length fw : Value).ownBlock ∧ some k_ ≠ (.slice qE gj.length qF : Value).ownBlock ∧ k_ ≠ bb) (fun _ => False) rfl rfl ?aO ?aR (fun _ _ h => h) (fun _ h => h.elim) ?aF ?aB ?aS ?aL ?_
      (case aR => repeat (first | exact (Z39 HR202) | (with_reducible refine Kd.C_alloc ?_ _) | (with_reducible refine Kd.C_drewN ?_ _) | (with_reducible refine Kd.C_drew ?_)))
      (case aB => exact Z26)
      (case aF => exact (fun k_ hk => ⟨Kd.fresh' (Yd_ aJ) k_ hk, Kd.fresh' (Yd_ e6) k_ hk, Kd.freshB (g := bb) (o := .cells #[.int .i64 ((rd_T90 l0 au).f0), .int .i64 ((rd_T90 l0 au).f1), .int .i64 ((rd_T90 l0 au).f2)] 90 (0, 0)) (Z1 aG) k_ hk⟩))
      (case aO => exact (Z2 BA))
      (case aS => exact (below_size (Z26)))
      (case aL => exact Z182 Bz)
      intro v204 I5 ho hb hg hat
      rw [← Ny203.out] at ho
      have n0_ := Aside0.mk (Kd.R_after (ok := (fun k_ => some k_ ≠ (.slice qE gj.length qF : Value).ownBlock ∧ k_ ≠ bb)) (Z2 aJ) hg hat)
      have n1_ := Aside0.mk (blk_grown (g := bb) (o := .cells #[.int .i64 ((rd_T90 l0 au).f0), .int .i64 ((rd_T90 l0 au).f1), .int .i64 ((rd_T90 l0 au).f2)] 90 (0, 0)) (Z1 aG) hg (Kd.R_away BA.out (fun _ hk => hk.2.2)))
      have n2_ := Aside0.mk (Kd.R_after (ok := (fun k_ => some k_ ≠ (.slice hG aX.length fw : Value).ownBlock ∧ k_ ≠ bb)) (Z2 e6) hg hat)
      have n3_ := Aside0.mk (hb)
      have n4_ := Aside0.mk ((show Kd.C k90 I5 hG gA.length gA from by rw [oy.out]; exact Kd.C_take (m := (cD : Int).toNat) ((Kd.R_reads' (Kd.R_after (ok := (fun k_ => some k_ ≠ (.slice qE gj.length qF : Value).ownBlock ∧ k_ ≠ bb)) (Z2 aJ) hg hat)).2.2) KL46.out))
      have n5_ := Aside0.mk ((show Kd.C k90 I5 Gm fu.length fu from by rw [oz.out, ym.out]; exact Kd.C_drop (m := (cD : Int).toNat) (c := fw) ((Kd.R_reads' (Kd.R_after (ok := (fun k_ => some k_ ≠ (.slice qE gj.length qF : Value).ownBlock ∧ k_ ≠ bb)) (Z2 aJ) hg hat)).2.2) KL47.out ((Kd.R_reads' (Kd.R_after (ok := (fun k_ => some k_ ≠ (.slice qE gj.length qF : Value).ownBlock ∧ k_ ≠ bb)) (Z2 aJ) hg hat)).2.1)))
      have n6_ := Aside0.mk (ho)
      clear aJ
      clear aG
      clear e6
      clear HB
      clear HR189
      clear HR202
      clear BA
      have aJ := n0_
      have aG := n1_
      have e6 := n2_
      have HB := n3_
      have HR189 := n4_
      have HR202 := n5_
      have HO205 := n6_
      clear n0_ n1_ n2_ n3_ n4_ n5_ n6_
      clear ho hb hg hat
      refine hK.out _ _ ⟨(blk_cell aG.out 0).trans rfl, (blk_cell aG.out 1).trans rfl, (blk_cell aG.out 2).trans rfl⟩ (fun hHeld => ?_)
      clear hK K
      refine norm_ (a' := ?_) ?_ ?_
      rotate_left
      ·show Act.put _ (some 40) _ = _
       simp only [Act.put, List.setIfInBounds_toArray, List.set_cons_zero, List.set_cons_succ, i64_w, i32_w]
       rfl
      refine pu_ 12 4 (M_ 13 0) ?_
      refine done_ (done_of HT_.out (by kernel_rfl)) ?_
      try go_wp2
      go_roundg k2
      case measure => have := HK1.out; have := HK2.out; omega
      case rel => exact ⟨(Ii), (wrap64 (au + 1)), (Z41), H', ⟨by have := HK1.out; have := HK2.out; omega⟩, ⟨Z47 HO205⟩, ⟨Z26⟩⟩
   rw [if_neg c2] at H
   have hP : decide (au < (l0.length : Int)) = false := decide_eq_false c2
   clear c2
   obtain ⟨Gi, JD, H⟩ := bd_ H
   (try dsimp only at H)
   by_cases c58 : Gi = true
   ·subst c58
    rw [if_pos rfl] at H
    simp only [Option.some.injEq, Prod.mk.injEq] at H
    obtain ⟨rfl, rfl⟩ := H
    obtain ⟨cB, cC, F5⟩ := Kd.R_slice aJ.out
    subst F5
    go_wp2_with ((with_reducible refine gate_callee (f := 84) rfl ?_); refine gl_ 43 Try.func84 #[.slice cB aX.length cC] ?_; (with_reducible refine (spec_shGood.calls k1 _ _ aX true _ ?_ ?_ JD.out).mono ?_); exact (Z7 aJ); exact (Kd.R_reads' aJ.out).2.1; rintro e Jy ⟨rfl, hb⟩; refine ⟨_, rfl, ?_⟩; refine k2_ (Ya_ aJ) (below_step (Z5) hb) ?_; clear aJ HB; intro aJ HB; (try clear hb))
    go_ret2
    exact ⟨_, Z11, Z2 aJ, Z5⟩
   replace c58 := Bool.eq_false_iff.mpr c58
   subst c58
   rw [if_neg (show ¬ (false = true) by decide)] at H
   simp only [Option.some.injEq, Prod.mk.injEq] at H
   obtain ⟨rfl, rfl⟩ := H
   obtain ⟨Ao61, co61, eo61⟩ := Kd.R_slice aJ.out
   subst eo61
   go_wp2_with ((with_reducible refine gate_callee (f := 84) rfl ?_); refine gl_ 43 Try.func84 #[.slice Ao61 aX.length co61] ?_; (with_reducible refine (spec_shGood.calls k1 _ _ aX false _ ?_ ?_ JD.out).mono ?_); exact (Z7 aJ); exact (Kd.R_reads' aJ.out).2.1; rintro e w62 ⟨rfl, hb⟩; refine ⟨_, rfl, ?_⟩; refine k2_ (Ya_ aJ) (below_step (Z5) hb) ?_; clear aJ HB; intro aJ HB; (try clear hb))
   go_ret2
   exact ⟨_, Z11, Z44, Z5⟩

end Go.Proofs.Ytmnnmddfmmaohaa.PFnPunchJobs
