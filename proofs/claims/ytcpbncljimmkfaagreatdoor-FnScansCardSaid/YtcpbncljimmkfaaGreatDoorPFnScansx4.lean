-- written by a program of this session: the kit's print, with outer functions of the session's own (wip/ext)
import Derived.Test.YtcpbncljimmkfaaGreatDoorPFnScansx0
import Derived.Test.YtcpbncljimmkfaaGreatDoorPFnScansx2
import Derived.Test.YtcpbncljimmkfaaGreatDoorPFnScansx3
namespace Go.Proofs.YtcpbncljimmkfaaGreatDoor.PFnScans
open Go.RowKit Go.Proofs.YtcpbncljimmkfaaGreatDoorW.PrintWords Go.Proofs.YtcpbncljimmkfaaGreatDoorW.PrintLast Go.Proofs.YtcpbncljimmkfaaGreatDoorW.PrintMore
attribute [local go_sem] max2_int min2_int max_two min_two max_three min_three max_four min_four   -- for this text's walks alone
set_option linter.unusedVariables false
set_option linter.unusedSimpArgs false
theorem mo4_ {p : Prop} (h : p := by repeat' first | (with_reducible first | apply ih0 | apply ih0 | apply ih1 | apply ih1 | apply spec_shGood.mono | apply spec_shGood.mono | exact LeO.refl _ | exact LeO.none _ | refine LeO.ite ?_ ?_ | refine LeO.bind ?_ (fun _ => ?_)) | exact LeO.none _ | refine LeO.ite ?_ ?_ | refine LeO.bind ?_ (fun _ => ?_)) : p := h

/-! ### spec_shSorted: function 67 -/
mutual
def spec_shSorted.l0 : Nat → List (S55) → List (S55) → Int → Int → Option ((List (S55)) × Bool)
 | 0, _, _, _, _ => none
 | k + 1, x4, x8, x9, x10 => if x10 < x9 then (if 0 ≤ x10 then (if x10 < (x8.length : Int) then (spec_shSorted.l1 k x4 (x4.length : Int) x8 x9 x10 ((rd_T55 x8 x10).f0) ((rd_T55 x8 x10).f1) ((rd_T55 x8 x10).f2)) else (none)) else (none)) else ((spec_shGood.f k x4).bind fun zd => (if zd = true then (some (x4, true)) else (some (([] : List (S55)), false))))
def spec_shSorted.l1 : Nat → List (S55) → Int → List (S55) → Int → Int → Int → Int → Int → Option ((List (S55)) × Bool)
 | 0, _, _, _, _, _, _, _, _ => none
 | k + 1, x4, x7, x8, x9, x10, iA, iB, iC => if x7 > 0 then (if 0 ≤ (wrap64 (x7 - 1)) then (if (wrap64 (x7 - 1)) < (x4.length : Int) then ((spec_shBefore.f iA iB iC ((rd_T55 x4 (wrap64 (x7 - 1))).f0) ((rd_T55 x4 (wrap64 (x7 - 1))).f1) ((rd_T55 x4 (wrap64 (x7 - 1))).f2)).bind fun tx => (if tx = true then (spec_shSorted.l1 k x4 (wrap64 (x7 - 1)) x8 x9 x10 iA iB iC) else ((some (([] : List (S55)) : List (S55))).bind fun f9 => (if 0 ≤ x7 then (if x7 ≤ (x4.length : Int) then ((some (x4.take (x7 : Int).toNat : List (S55))).bind fun cH => (if f9.length + cH.length < 5864062014805 then ((some (f9 ++ cH : List (S55))).bind fun dI => ((some (([(⟨iA, iB, iC⟩ : S55)] : List (S55)) : List (S55))).bind fun cv => (if dI.length + cv.length < 5864062014805 then ((some (dI ++ cv : List (S55))).bind fun dx => ((some (x4.drop (x7 : Int).toNat : List (S55))).bind fun bT => (if dx.length + bT.length < 5864062014805 then (spec_shSorted.l0 k (dx ++ bT) x8 x9 (wrap64 (x10 + 1))) else (none)))) else (none)))) else (none))) else (none)) else (none))))) else (none)) else (none)) else ((some (([] : List (S55)) : List (S55))).bind fun ib => (if 0 ≤ x7 then (if x7 ≤ (x4.length : Int) then ((some (x4.take (x7 : Int).toNat : List (S55))).bind fun dj => (if ib.length + dj.length < 5864062014805 then ((some (ib ++ dj : List (S55))).bind fun eZ => ((some (([(⟨iA, iB, iC⟩ : S55)] : List (S55)) : List (S55))).bind fun cO => (if eZ.length + cO.length < 5864062014805 then ((some (eZ ++ cO : List (S55))).bind fun dT => ((some (x4.drop (x7 : Int).toNat : List (S55))).bind fun b6 => (if dT.length + b6.length < 5864062014805 then (spec_shSorted.l0 k (dT ++ b6) x8 x9 (wrap64 (x10 + 1))) else (none)))) else (none)))) else (none))) else (none)) else (none)))
end
def spec_shSorted.f (k : Nat) (l0 : List (S55)) : Option ((List (S55)) × Bool) := spec_shSorted.l0 k ([] : List (S55)) l0 (l0.length : Int) 0
theorem spec_shSorted.mono_l : ∀ k, (∀ y0 y1 y2 y3, LeO (spec_shSorted.l0 k y0 y1 y2 y3) (spec_shSorted.l0 (k + 1) y0 y1 y2 y3)) ∧ (∀ y0 y1 y2 y3 y4 y5 y6 y7, LeO (spec_shSorted.l1 k y0 y1 y2 y3 y4 y5 y6 y7) (spec_shSorted.l1 (k + 1) y0 y1 y2 y3 y4 y5 y6 y7))
 | 0 => ⟨fun _ _ _ _ r h => by simp [spec_shSorted.l0] at h, fun _ _ _ _ _ _ _ _ r h => by simp [spec_shSorted.l1] at h⟩
 | k + 1 => by
  obtain ⟨ih0, ih1⟩ := spec_shSorted.mono_l k
  refine ⟨?_, ?_⟩
  ·intro y0 y1 y2 y3
   unfold spec_shSorted.l0
   exact mo4_
  intro y0 y1 y2 y3 y4 y5 y6 y7
  unfold spec_shSorted.l1
  exact mo4_
theorem spec_shSorted.mono : ∀ a0 k, LeO (spec_shSorted.f k a0) (spec_shSorted.f (k + 1) a0) := by
 intro a0 k
 obtain ⟨ih0, ih1⟩ := spec_shSorted.mono_l k
 unfold spec_shSorted.f
 exact mo4_
def spec_shSorted.T6 : Bool × List (List Nat × List Nat) := (true, [([], []), ([0], [0]), ([1], [1]), ([2], [2]), ([2], [2]), ([2], [2]), ([5, 2], [2, 5]), ([4, 6, 2], [2, 4, 6]), ([7, 2], [2, 7]), ([3, 8, 2, 2], [2, 3, 8]), ([2, 9], [2, 9])])
def spec_shSorted.B6 : List Nat := [0, 1, 3, 7, 7, 7, 39, 119, 247, 511, 1023]
theorem spec_shSorted.tab6 : rtab .any (opsOf Tryz.f67 6) = spec_shSorted.T6 := by kernel_rfl
theorem spec_shSorted.bits6 : waitsOk spec_shSorted.T6.2 spec_shSorted.B6 = true := by kernel_rfl
def spec_shSorted.T8 : Bool × List (List Nat × List Nat) := (true, [([], []), ([], []), ([], []), ([1, 2], [1, 2]), ([0, 3], [0, 3]), ([], []), ([5], [5]), ([4, 6, 4], [4, 6]), ([], []), ([], []), ([8, 9], [8, 9]), ([7, 10, 7], [7, 10]), ([11, 11, 0, 1, 2, 3, 4, 5, 6, 7, 8, 9, 10, 11], [1, 8, 11])])
def spec_shSorted.B8 : List Nat := [0, 0, 0, 6, 15, 0, 32, 127, 0, 0, 768, 2047, 4095]
theorem spec_shSorted.tab8 : rtab .any (opsOf Tryz.f67 8) = spec_shSorted.T8 := by kernel_rfl
theorem spec_shSorted.bits8 : waitsOk spec_shSorted.T8.2 spec_shSorted.B8 = true := by kernel_rfl
set_option maxHeartbeats 8000000 in
set_option maxRecDepth 100000 in
theorem spec_shSorted.calls (k : Nat) (A0 : Option Addr) (c0 : Nat) (l0 : List (S55)) (r1 : List (S55)) (r2 : Bool) (w : World) (hr0 : Kd.C k55 w A0 l0.length l0) (hc0 : l0.length ≤ c0) (h : spec_shSorted.f k l0 = some (r1, r2)) :
  Calls Tryz.prog 67 #[.slice A0 l0.length c0] w fun e w' => ∃ v0_ : Value, e = .returned (.tuple #[v0_, .bool r2]) ∧ Kd.R k55 55 w' w.heap.size (fun _ => True) v0_ r1 ∧ Below w.heap.size w w' := by
 have hu55 := Tryz.underlying55
 have HR0 := Aside0.mk hr0
 have HC0 := Aside0.mk hc0
 clear hr0 hc0
 have HB := Aside0.mk (Below.refl w.heap.size w)
 have H : (spec_shSorted.l0 k ([] : List (S55)) l0 (l0.length : Int) 0) = some (r1, r2) := h
 clear h
 have H' := Aside0.mk H
 clear H
 go_enter Tryz.func67, Tryz.ntmps67
 go_wp2
 go_loopg [4, 10] k (fun kq v4 qu w' => ∃ (ap : List (S55)) (aa : Int), qu = .int .i64 aa ∧ Aside0 (spec_shSorted.l0 kq ap l0 (l0.length : Int) aa = some (r1, r2)) ∧ Aside0 (kq ≤ k) ∧ Aside0 (Kd.R k55 55 w' w.heap.size (fun _ => True) v4 ap) ∧ Aside0 (Below w.heap.size w w'))
 case atStart => exact ⟨(([] : List (S55))), (0), (Z11), H', ⟨Nat.le_refl _⟩, ⟨Z15⟩, ⟨Z2⟩⟩
 case round =>
  clear H'
  obtain ⟨ap, aa, rfl, HA, HK1, ae, HB⟩ := hrel
  cases gk with
  | zero => exact absurd HA.out (by simp [spec_shSorted.l0])
  | succ k1 =>
   have H := HA.out
   clear HA
   simp only [spec_shSorted.l0] at H
   by_cases c2 : aa < (l0.length : Int)
   ·rw [if_pos c2] at H
    have eu : decide (aa < (l0.length : Int)) = true := decide_eq_true c2
    clear c2
    by_cases c3 : 0 ≤ aa
    case neg => rw [if_neg c3] at H; exact absurd H (by simp)
    rw [if_pos c3] at H
    have bA : decide (0 ≤ aa) = true := decide_eq_true c3
    clear c3
    by_cases c4 : aa < (l0.length : Int)
    case neg => rw [if_neg c4] at H; exact absurd H (by simp)
    rw [if_pos c4] at H
    have bZ : decide (aa < (l0.length : Int)) = true := decide_eq_true c4
    clear c4
    have H' := Aside0.mk H
    clear H
    have uZ : 0 ≤ (aa : Int) := of_decide_eq_true (Z8)
    have u0 : aa < (l0.length : Int) := of_decide_eq_true (Z8)
    obtain ⟨ad129, e129, iD, iE, iF⟩ := at_T55 HR0.out aa uZ u0
    cases e129
    replace iD := (HB.out.cell (World.block_lt_of_cell? w _ iD)).trans iD
    replace iE := (HB.out.cell (World.block_lt_of_cell? w _ iE)).trans iE
    replace iF := (HB.out.cell (World.block_lt_of_cell? w _ iF)).trans iF
    replace uZ := eq_true uZ
    replace u0 := eq_true u0
    go_wp2_with ((with_reducible refine gate_dst (N := 6) rfl ?_); refine bv_ 6 55 #[.int .i64 0, .int .i64 0, .int .i64 0] ?_; intro ah hg w5 hbox hb; refine k5_ (Kd.R_below (Kd.R_elderB (Z3 ae) ah (Nat.le_of_eq hg.symm)) hb) (below_step (Z2) hb) (hbox) ((Z33 : w.heap.size ≤ ah)) ((Z33 : w.heap.size ≤ ah)) ?_; clear ae HB; intro ae HB ab GW130 GE130; clear hb hbox hg; obtain ⟨sN, sO, sP, hfz6_0, sQ, sR⟩ := bx3_ (w := w5) ab.out; obtain ⟨gL, cP, eo7⟩ := Kd.R_slice ae.out; subst eo7)
    (try simp only [Act.put, List.setIfInBounds_toArray, List.set_cons_zero, List.set_cons_succ])
    go_loopg [7] k1 (fun kq v7 w' => ∃ (aw : Int), v7 = .int .i64 aw ∧ Aside0 (spec_shSorted.l1 kq ap aw l0 (l0.length : Int) aa ((rd_T55 l0 aa).f0) ((rd_T55 l0 aa).f1) ((rd_T55 l0 aa).f2) = some (r1, r2)) ∧ Aside0 (kq ≤ k1) ∧ Aside0 (Kd.R k55 55 w' w.heap.size (fun k_ => k_ ≠ ah) (.slice gL ap.length cP) ap) ∧ Aside0 (w'.heap[ah]? = some (.cells #[.int .i64 ((rd_T55 l0 aa).f0), .int .i64 ((rd_T55 l0 aa).f1), .int .i64 ((rd_T55 l0 aa).f2)] 55 (0, 0))) ∧ Aside0 (Below w.heap.size w w'))
    case atStart => exact ⟨((ap.length : Int)), (Z11), H', ⟨Nat.le_refl _⟩, ⟨by (with_reducible repeat (first | apply Kd.R_alloc | apply Kd.R_drewN | apply Kd.R_drew)); exact Kd.R_mono (Kd.R_far (p := ⟨ah, 2, none⟩) (Kd.R_far (p := ⟨ah, 1, none⟩) (Kd.R_far (p := ⟨ah, 0, none⟩) (Kd.R_mono ae.out (fun k_ hk => (⟨hk, hk.2⟩ : _ ∧ k_ ≠ ah))) (fun _ hk => hk.2) (.int .i64 ((rd_T55 l0 aa).f0))) (fun _ hk => hk.2) (.int .i64 ((rd_T55 l0 aa).f1))) (fun _ hk => hk.2) (.int .i64 ((rd_T55 l0 aa).f2))) (fun _ hk => hk.1.2)⟩, ⟨Z59 ab⟩, ⟨Z12⟩⟩
    case round =>
     clear H'
     (try clear c2); (try clear eu); (try clear c3); (try clear bA); (try clear c4); (try clear bZ); (try clear sN); (try clear sO); (try clear sP); (try clear hfz6_0); (try clear sQ); (try clear sR); (try clear iD); (try clear iE); (try clear iF); (try clear uZ); (try clear u0)
     obtain ⟨aw, rfl, HA, HK2, ae, ab, HB⟩ := hrel
     cases gk with
     | zero => exact absurd HA.out (by simp [spec_shSorted.l1])
     | succ k2 =>
      have H := HA.out
      clear HA
      simp only [spec_shSorted.l1] at H
      by_cases c8 : aw > 0
      ·rw [if_pos c8] at H
       have ep : decide (0 < aw) = true := decide_eq_true c8
       clear c8
       obtain ⟨dQ, hji9⟩ : ∃ j_ : Int, (wrap64 (aw - 1)) = j_ := ⟨_, rfl⟩
       replace H : (if 0 ≤ (dQ) then (if (dQ) < (ap.length : Int) then ((spec_shBefore.f ((rd_T55 l0 aa).f0) ((rd_T55 l0 aa).f1) ((rd_T55 l0 aa).f2) ((rd_T55 ap (dQ)).f0) ((rd_T55 ap (dQ)).f1) ((rd_T55 ap (dQ)).f2)).bind fun tx => (if tx = true then (spec_shSorted.l1 k2 ap dQ l0 (l0.length : Int) aa ((rd_T55 l0 aa).f0) ((rd_T55 l0 aa).f1) ((rd_T55 l0 aa).f2)) else ((some (([] : List (S55)) : List (S55))).bind fun f9 => (if 0 ≤ aw then (if aw ≤ (ap.length : Int) then ((some (ap.take (aw : Int).toNat : List (S55))).bind fun cH => (if f9.length + cH.length < 5864062014805 then ((some (f9 ++ cH : List (S55))).bind fun dI => ((some (([(⟨((rd_T55 l0 aa).f0), ((rd_T55 l0 aa).f1), ((rd_T55 l0 aa).f2)⟩ : S55)] : List (S55)) : List (S55))).bind fun cv => (if dI.length + cv.length < 5864062014805 then ((some (dI ++ cv : List (S55))).bind fun dx => ((some (ap.drop (aw : Int).toNat : List (S55))).bind fun bT => (if dx.length + bT.length < 5864062014805 then (spec_shSorted.l0 k2 (dx ++ bT) l0 (l0.length : Int) (wrap64 (aa + 1))) else (none)))) else (none)))) else (none))) else (none)) else (none))))) else (none)) else (none)) = some (r1, r2) := by first | (rw [hji9] at H; exact H) | (simp only [hji9] at H ⊢; exact H)
       have hji9w : (IntKind.i64.wrap (aw - 1)) = dQ := (i64_w _).trans hji9
       by_cases c10 : 0 ≤ (dQ)
       case neg => rw [if_neg c10] at H; exact absurd H (by simp)
       rw [if_pos c10] at H
       have b7 : decide (0 ≤ (dQ)) = true := decide_eq_true c10
       clear c10
       by_cases c11 : (dQ) < (ap.length : Int)
       case neg => rw [if_neg c11] at H; exact absurd H (by simp)
       rw [if_pos c11] at H
       have eM : decide ((dQ) < (ap.length : Int)) = true := decide_eq_true c11
       clear c11
       obtain ⟨tx, vU, H⟩ := bd_ H
       (try dsimp only at H)
       by_cases c13 : tx = true
       ·subst c13
        rw [if_pos rfl] at H
        have H' := Aside0.mk H
        clear H
        try go_wp2
        refine k3_ (Kd.R_drew ae.out) (blk_drew ab.out) (below_drew1 HB.out) ?_
        clear ae ab HB
        intro ae ab HB
        have pm : 0 ≤ ((dQ) : Int) := of_decide_eq_true (Z8)
        have pn : (dQ) < (ap.length : Int) := of_decide_eq_true (Z8)
        obtain ⟨bo, e131, gD, gE, gF⟩ := at_T55 (Kd.R_reads' ae.out).2.2 (dQ) pm pn
        cases e131
        replace pm := eq_true pm
        replace pn := eq_true pn
        refine start_ (n := 11) (S := fun w' => w'.cell? ⟨ah, 0, none⟩ = some (.int .i64 ((rd_T55 l0 aa).f0)) ∧ w'.cell? ⟨ah, 1, none⟩ = some (.int .i64 ((rd_T55 l0 aa).f1)) ∧ w'.cell? ⟨ah, 2, none⟩ = some (.int .i64 ((rd_T55 l0 aa).f2)) ∧ w'.cell? (bo.add (((dQ)).toNat * 3)) = some (.int .i64 ((rd_T55 ap (dQ)).f0)) ∧ w'.cell? ⟨(bo.add (((dQ)).toNat * 3)).block, (bo.add (((dQ)).toNat * 3)).off + 1, none⟩ = some (.int .i64 ((rd_T55 ap (dQ)).f1)) ∧ w'.cell? ⟨(bo.add (((dQ)).toNat * 3)).block, (bo.add (((dQ)).toNat * 3)).off + 2, none⟩ = some (.int .i64 ((rd_T55 ap (dQ)).f2))) (ds := []) (M_ 0 11) (by kernel_rfl) rfl rfl ⟨(blk_cell ab.out 0).trans rfl, (blk_cell ab.out 1).trans rfl, (blk_cell ab.out 2).trans rfl, gD, gE, gF⟩ (fun hHeld => ?_); refine with_tabW spec_shSorted.tab6 spec_shSorted.bits6 (fun HT_ HW_ => ?_)
        generalize wr.drew = ze at ae ab HB gD gE gF hHeld ⊢
        refine pu_ 0 16 (M_ 1 10) ?_
        refine pu_ 1 17 (M_ 2 9) ?_
        refine pu_ 2 18 (M_ 3 8) ?_
        refine pu_ 4 20 (N_ 11 23) ?_
        refine pu_ 5 21 (N_ 11 55) ?_
        refine pu_ 6 22 (N_ 11 119) ?_
        refine pu_ 7 23 (N_ 11 247) ?_
        refine tk6_ 3 19 (M_ 8 3) hHeld ?_
        refine tk6_ 8 24 (M_ 9 2) hHeld ?_
        refine one_ (i := 9) (N := some 25) (M_ 10 1) rfl rfl (one_of HT_.out (by kernel_rfl)) (by decide) (fun K hK => ?_)
        refine goes_ Tryz.func57 (by kernel_rfl) rfl #[.agg #[.int .i64 ((rd_T55 l0 aa).f0), .int .i64 ((rd_T55 l0 aa).f1), .int .i64 ((rd_T55 l0 aa).f2)], .agg #[.int .i64 ((rd_T55 ap (dQ)).f0), .int .i64 ((rd_T55 ap (dQ)).f1), .int .i64 ((rd_T55 ap (dQ)).f2)]] (by rfl) rfl rfl (Z104) ?_
        with_reducible refine (spec_shBefore.calls ((rd_T55 l0 aa).f0) ((rd_T55 l0 aa).f1) ((rd_T55 l0 aa).f2) ((rd_T55 ap (dQ)).f0) ((rd_T55 ap (dQ)).f1) ((rd_T55 ap (dQ)).f2) true _ vU.out).mono ?_
        rintro e il ⟨rfl, hb⟩
        have HS3_ := (hb.cell (World.block_lt_of_cell? _ _ (hHeld.2.2.2.1))).trans (hHeld.2.2.2.1)
        have HS4_ := (hb.cell (World.block_lt_of_cell? _ _ (hHeld.2.2.2.2.1))).trans (hHeld.2.2.2.2.1)
        have HS5_ := (hb.cell (World.block_lt_of_cell? _ _ (hHeld.2.2.2.2.2))).trans (hHeld.2.2.2.2.2)
        refine ⟨_, rfl, ?_⟩
        have n0_ := Aside0.mk (Ya_ ae)
        have n1_ := Aside0.mk (Ye_ ab)
        have n2_ := Aside0.mk (below_step (Z12) hb)
        clear ae
        clear ab
        clear HB
        have ae := n0_
        have ab := n1_
        have HB := n2_
        clear n0_ n1_ n2_
        (try clear hb)
        (try clear hk)
        refine hK.out _ _ ⟨(blk_cell ab.out 0).trans rfl, (blk_cell ab.out 1).trans rfl, (blk_cell ab.out 2).trans rfl, HS3_, HS4_, HS5_⟩ (fun hHeld => ?_)
        clear hK K
        refine norm_ (a' := ?_) ?_ ?_
        rotate_left
        ·show Act.put _ (some 25) _ = _
         simp only [Act.put, List.setIfInBounds_toArray, List.set_cons_zero, List.set_cons_succ, i64_w, i32_w]
         rfl
        refine pu_ 10 26 (M_ 11 0) ?_
        refine done_ (done_of HT_.out (by kernel_rfl)) ?_
        try go_wp2
        go_roundg k2
        case measure => have := HK1.out; have := HK2.out; omega
        case rel => exact ⟨(dQ), (by first | rfl | (simp; done) | (simp only [← hji9] <;> (first | rfl | simp)) | (simp [*]; done)), H', ⟨Z50⟩, ⟨Z3 ae⟩, ⟨Z7 ab⟩, ⟨Z12⟩⟩
       replace c13 := Bool.eq_false_iff.mpr c13
       subst c13
       rw [if_neg (show ¬ (false = true) by decide)] at H
       obtain ⟨f9, nB⟩ : ∃ y_ : List (S55), y_ = (([] : List (S55))) := ⟨_, rfl⟩
       replace H : (if 0 ≤ aw then (if aw ≤ (ap.length : Int) then ((some (ap.take (aw : Int).toNat : List (S55))).bind fun cH => (if f9.length + cH.length < 5864062014805 then ((some (f9 ++ cH : List (S55))).bind fun dI => ((some (([(⟨((rd_T55 l0 aa).f0), ((rd_T55 l0 aa).f1), ((rd_T55 l0 aa).f2)⟩ : S55)] : List (S55)) : List (S55))).bind fun cv => (if dI.length + cv.length < 5864062014805 then ((some (dI ++ cv : List (S55))).bind fun dx => ((some (ap.drop (aw : Int).toNat : List (S55))).bind fun bT => (if dx.length + bT.length < 5864062014805 then (spec_shSorted.l0 k2 (dx ++ bT) l0 (l0.length : Int) (wrap64 (aa + 1))) else (none)))) else (none)))) else (none))) else (none)) else (none)) = some (r1, r2) := by first | (rw [nB]; with_reducible exact H) | (have H2_ := (Option.bind_some _ _).symm.trans H; rw [nB]; with_reducible exact H2_) | (have H2_ := (Option.bind_some _ _).symm.trans H; with_reducible exact H2_) | with_reducible exact H | (rw [nB]; exact H) | exact H
       have ql := Aside0.mk nB
       clear nB
       by_cases c16 : 0 ≤ aw
       case neg => rw [if_neg c16] at H; exact absurd H (by simp)
       rw [if_pos c16] at H
       have e6 := eq_true c16
       have pJ : decide (0 ≤ aw) = true := decide_eq_true c16
       clear c16
       by_cases c17 : aw ≤ (ap.length : Int)
       case neg => rw [if_neg c17] at H; exact absurd H (by simp)
       rw [if_pos c17] at H
       have gf := eq_true c17
       have pN : decide (aw ≤ (ap.length : Int)) = true := decide_eq_true c17
       clear c17
       obtain ⟨cH, nC⟩ : ∃ y_ : List (S55), y_ = (ap.take (aw : Int).toNat) := ⟨_, rfl⟩
       replace H : (if f9.length + cH.length < 5864062014805 then ((some (f9 ++ cH : List (S55))).bind fun dI => ((some (([(⟨((rd_T55 l0 aa).f0), ((rd_T55 l0 aa).f1), ((rd_T55 l0 aa).f2)⟩ : S55)] : List (S55)) : List (S55))).bind fun cv => (if dI.length + cv.length < 5864062014805 then ((some (dI ++ cv : List (S55))).bind fun dx => ((some (ap.drop (aw : Int).toNat : List (S55))).bind fun bT => (if dx.length + bT.length < 5864062014805 then (spec_shSorted.l0 k2 (dx ++ bT) l0 (l0.length : Int) (wrap64 (aa + 1))) else (none)))) else (none)))) else (none)) = some (r1, r2) := by first | (rw [nC]; with_reducible exact H) | (have H2_ := (Option.bind_some _ _).symm.trans H; rw [nC]; with_reducible exact H2_) | (have H2_ := (Option.bind_some _ _).symm.trans H; with_reducible exact H2_) | with_reducible exact H | (rw [nC]; exact H) | exact H
       have g9 := Aside0.mk nC
       clear nC
       by_cases c18 : f9.length + cH.length < 5864062014805
       case neg => rw [if_neg c18] at H; exact absurd H (by simp)
       rw [if_pos c18] at H
       have mj := Aside0.mk c18
       clear c18
       obtain ⟨dI, fk⟩ : ∃ y_ : List (S55), y_ = (f9 ++ cH) := ⟨_, rfl⟩
       replace H : ((some (([(⟨((rd_T55 l0 aa).f0), ((rd_T55 l0 aa).f1), ((rd_T55 l0 aa).f2)⟩ : S55)] : List (S55)) : List (S55))).bind fun cv => (if dI.length + cv.length < 5864062014805 then ((some (dI ++ cv : List (S55))).bind fun dx => ((some (ap.drop (aw : Int).toNat : List (S55))).bind fun bT => (if dx.length + bT.length < 5864062014805 then (spec_shSorted.l0 k2 (dx ++ bT) l0 (l0.length : Int) (wrap64 (aa + 1))) else (none)))) else (none))) = some (r1, r2) := by first | (rw [fk]; with_reducible exact H) | (have H2_ := (Option.bind_some _ _).symm.trans H; rw [fk]; with_reducible exact H2_) | (have H2_ := (Option.bind_some _ _).symm.trans H; with_reducible exact H2_) | with_reducible exact H | (rw [fk]; exact H) | exact H
       have nD := Aside0.mk fk
       clear fk
       obtain ⟨cv, nE⟩ : ∃ y_ : List (S55), y_ = (([(⟨((rd_T55 l0 aa).f0), ((rd_T55 l0 aa).f1), ((rd_T55 l0 aa).f2)⟩ : S55)] : List (S55))) := ⟨_, rfl⟩
       replace H : (if dI.length + cv.length < 5864062014805 then ((some (dI ++ cv : List (S55))).bind fun dx => ((some (ap.drop (aw : Int).toNat : List (S55))).bind fun bT => (if dx.length + bT.length < 5864062014805 then (spec_shSorted.l0 k2 (dx ++ bT) l0 (l0.length : Int) (wrap64 (aa + 1))) else (none)))) else (none)) = some (r1, r2) := by first | (rw [nE]; with_reducible exact H) | (have H2_ := (Option.bind_some _ _).symm.trans H; rw [nE]; with_reducible exact H2_) | (have H2_ := (Option.bind_some _ _).symm.trans H; with_reducible exact H2_) | with_reducible exact H | (rw [nE]; exact H) | exact H
       have lp := Aside0.mk nE
       clear nE
       by_cases c19 : dI.length + cv.length < 5864062014805
       case neg => rw [if_neg c19] at H; exact absurd H (by simp)
       rw [if_pos c19] at H
       have tz := Aside0.mk c19
       clear c19
       obtain ⟨dx, nF⟩ : ∃ y_ : List (S55), y_ = (dI ++ cv) := ⟨_, rfl⟩
       replace H : ((some (ap.drop (aw : Int).toNat : List (S55))).bind fun bT => (if dx.length + bT.length < 5864062014805 then (spec_shSorted.l0 k2 (dx ++ bT) l0 (l0.length : Int) (wrap64 (aa + 1))) else (none))) = some (r1, r2) := by first | (rw [nF]; with_reducible exact H) | (have H2_ := (Option.bind_some _ _).symm.trans H; rw [nF]; with_reducible exact H2_) | (have H2_ := (Option.bind_some _ _).symm.trans H; with_reducible exact H2_) | with_reducible exact H | (rw [nF]; exact H) | exact H
       have Ny146 := Aside0.mk nF
       clear nF
       have g4 := eq_true (of_decide_eq_true (Z8) : 0 ≤ aw)
       have mg := eq_true (of_decide_eq_true (Z8) : aw ≤ (ap.length : Int))
       obtain ⟨bT, nG⟩ : ∃ y_ : List (S55), y_ = (ap.drop (aw : Int).toNat) := ⟨_, rfl⟩
       replace H : (if dx.length + bT.length < 5864062014805 then (spec_shSorted.l0 k2 (dx ++ bT) l0 (l0.length : Int) (wrap64 (aa + 1))) else (none)) = some (r1, r2) := by first | (rw [nG]; with_reducible exact H) | (have H2_ := (Option.bind_some _ _).symm.trans H; rw [nG]; with_reducible exact H2_) | (have H2_ := (Option.bind_some _ _).symm.trans H; with_reducible exact H2_) | with_reducible exact H | (rw [nG]; exact H) | exact H
       have hD := Aside0.mk nG
       clear nG
       by_cases c22 : dx.length + bT.length < 5864062014805
       case neg => rw [if_neg c22] at H; exact absurd H (by simp)
       rw [if_pos c22] at H
       have sp := Aside0.mk c22
       clear c22
       obtain ⟨BQ, nH⟩ : ∃ y_ : List (S55), y_ = (dx ++ bT) := ⟨_, rfl⟩
       replace H : (spec_shSorted.l0 k2 BQ l0 (l0.length : Int) (wrap64 (aa + 1))) = some (r1, r2) := by first | (rw [nH]; with_reducible exact H) | (have H2_ := (Option.bind_some _ _).symm.trans H; rw [nH]; with_reducible exact H2_) | (have H2_ := (Option.bind_some _ _).symm.trans H; with_reducible exact H2_) | with_reducible exact H | (rw [nH]; exact H) | exact H
       have Ny153 := Aside0.mk nH
       clear nH
       have H' := Aside0.mk H
       clear H
       try go_wp2
       refine k3_ (Kd.R_drew ae.out) (blk_drew ab.out) (below_drew1 HB.out) ?_
       clear ae ab HB
       intro ae ab HB
       have pm : 0 ≤ ((dQ) : Int) := of_decide_eq_true (Z8)
       have pn : (dQ) < (ap.length : Int) := of_decide_eq_true (Z8)
       obtain ⟨bo, e131, gD, gE, gF⟩ := at_T55 (Kd.R_reads' ae.out).2.2 (dQ) pm pn
       cases e131
       replace pm := eq_true pm
       replace pn := eq_true pn
       refine start_ (n := 11) (S := fun w' => w'.cell? ⟨ah, 0, none⟩ = some (.int .i64 ((rd_T55 l0 aa).f0)) ∧ w'.cell? ⟨ah, 1, none⟩ = some (.int .i64 ((rd_T55 l0 aa).f1)) ∧ w'.cell? ⟨ah, 2, none⟩ = some (.int .i64 ((rd_T55 l0 aa).f2)) ∧ w'.cell? (bo.add (((dQ)).toNat * 3)) = some (.int .i64 ((rd_T55 ap (dQ)).f0)) ∧ w'.cell? ⟨(bo.add (((dQ)).toNat * 3)).block, (bo.add (((dQ)).toNat * 3)).off + 1, none⟩ = some (.int .i64 ((rd_T55 ap (dQ)).f1)) ∧ w'.cell? ⟨(bo.add (((dQ)).toNat * 3)).block, (bo.add (((dQ)).toNat * 3)).off + 2, none⟩ = some (.int .i64 ((rd_T55 ap (dQ)).f2))) (ds := []) (M_ 0 11) (by kernel_rfl) rfl rfl ⟨(blk_cell ab.out 0).trans rfl, (blk_cell ab.out 1).trans rfl, (blk_cell ab.out 2).trans rfl, gD, gE, gF⟩ (fun hHeld => ?_); refine with_tabW spec_shSorted.tab6 spec_shSorted.bits6 (fun HT_ HW_ => ?_)
       generalize wr.drew = mm at ae ab HB gD gE gF hHeld ⊢
       refine pu_ 0 16 (M_ 1 10) ?_
       refine pu_ 1 17 (M_ 2 9) ?_
       refine pu_ 2 18 (M_ 3 8) ?_
       refine pu_ 4 20 (N_ 11 23) ?_
       refine pu_ 5 21 (N_ 11 55) ?_
       refine pu_ 6 22 (N_ 11 119) ?_
       refine pu_ 7 23 (N_ 11 247) ?_
       refine tk6_ 3 19 (M_ 8 3) hHeld ?_
       refine tk6_ 8 24 (M_ 9 2) hHeld ?_
       refine one_ (i := 9) (N := some 25) (M_ 10 1) rfl rfl (one_of HT_.out (by kernel_rfl)) (by decide) (fun K hK => ?_)
       refine goes_ Tryz.func57 (by kernel_rfl) rfl #[.agg #[.int .i64 ((rd_T55 l0 aa).f0), .int .i64 ((rd_T55 l0 aa).f1), .int .i64 ((rd_T55 l0 aa).f2)], .agg #[.int .i64 ((rd_T55 ap (dQ)).f0), .int .i64 ((rd_T55 ap (dQ)).f1), .int .i64 ((rd_T55 ap (dQ)).f2)]] (by rfl) rfl rfl (Z104) ?_
       with_reducible refine (spec_shBefore.calls ((rd_T55 l0 aa).f0) ((rd_T55 l0 aa).f1) ((rd_T55 l0 aa).f2) ((rd_T55 ap (dQ)).f0) ((rd_T55 ap (dQ)).f1) ((rd_T55 ap (dQ)).f2) false _ vU.out).mono ?_
       rintro e mn ⟨rfl, hb⟩
       have HS3_ := (hb.cell (World.block_lt_of_cell? _ _ (hHeld.2.2.2.1))).trans (hHeld.2.2.2.1)
       have HS4_ := (hb.cell (World.block_lt_of_cell? _ _ (hHeld.2.2.2.2.1))).trans (hHeld.2.2.2.2.1)
       have HS5_ := (hb.cell (World.block_lt_of_cell? _ _ (hHeld.2.2.2.2.2))).trans (hHeld.2.2.2.2.2)
       refine ⟨_, rfl, ?_⟩
       have n0_ := Aside0.mk (Ya_ ae)
       have n1_ := Aside0.mk (Ye_ ab)
       have n2_ := Aside0.mk (below_step (Z12) hb)
       clear ae
       clear ab
       clear HB
       have ae := n0_
       have ab := n1_
       have HB := n2_
       clear n0_ n1_ n2_
       (try clear hb)
       (try clear hk)
       refine hK.out _ _ ⟨(blk_cell ab.out 0).trans rfl, (blk_cell ab.out 1).trans rfl, (blk_cell ab.out 2).trans rfl, HS3_, HS4_, HS5_⟩ (fun hHeld => ?_)
       clear hK K
       refine norm_ (a' := ?_) ?_ ?_
       rotate_left
       ·show Act.put _ (some 25) _ = _
        simp only [Act.put, List.setIfInBounds_toArray, List.set_cons_zero, List.set_cons_succ, i64_w, i32_w]
        rfl
       refine pu_ 10 26 (M_ 11 0) ?_
       refine done_ (done_of HT_.out (by kernel_rfl)) ?_
       try go_wp2
       refine k3_ (Kd.R_drew ae.out) (blk_drew ab.out) (below_drew1 HB.out) ?_
       clear ae ab HB
       intro ae ab HB
       have CS : (aw : Int) ≤ ((ap.length : Int) : Int) := of_decide_eq_true (Z8)
       obtain ⟨i026, hi026, _, hsz26, _⟩ := info_parts info55
       have hroom26 : ap.length ≤ cP := (Kd.R_reads' ae.out).2.1
       have hC26 : Kd.C k55 _ (some bo) ap.length ap := (Kd.R_reads' ae.out).2.2
       have hcut26 := cut_to (P := Tryz.prog) 24 55 .i64 Tryz.underlying24 hi026 (some bo) ap.length cP aw (of_decide_eq_true (Z8)) CS hroom26
       have hr26 := Kd.C_take (m := (aw : Int).toNat) hC26 (by omega)
       have zf : cH.length = (aw : Int).toNat := (Z118 g9)
       rw [← g9.out] at hr26
       rw [← zf] at hcut26
       have HR139 := Aside0.mk hr26
       have HC139 := Aside0.mk (show cH.length ≤ cP from by omega)
       clear hr26 hC26 hroom26 hi026 hsz26
       have KY26 := Aside0.mk zf
       clear zf
       have KL26 := Aside0.mk (show (aw : Int).toNat ≤ ap.length from by omega)
       replace CS := eq_true CS
       have CT : (aw : Int) ≤ ((ap.length : Int) : Int) := of_decide_eq_true (Z8)
       obtain ⟨i027, hi027, _, hsz27, _⟩ := info_parts info55
       have hroom27 : ap.length ≤ cP := (Kd.R_reads' ae.out).2.1
       have hC27 : Kd.C k55 _ (some bo) ap.length ap := (Kd.R_reads' ae.out).2.2
       have q027 : (0 : Int) ≤ (aw : Int) := of_decide_eq_true (Z8)
       have hcut27 := cut_from (P := Tryz.prog) 24 55 .i64 Tryz.underlying24 hi027 3 hsz27 (some bo) ap.length cP aw q027 CT
       have hr27 := Kd.C_drop (m := (aw : Int).toNat) (c := cP) hC27 (by omega) hroom27
       obtain ⟨ul, hA27⟩ : ∃ A1, A1 = (if cP = (aw : Int).toNat then (some bo) else ((some bo) : Option Addr).map (·.add ((aw : Int).toNat * 3))) := ⟨_, rfl⟩
       obtain ⟨c27, hc27⟩ : ∃ c1, c1 = cP - (aw : Int).toNat := ⟨_, rfl⟩
       have u1 : bT.length = ap.length - (aw : Int).toNat := (by rw [hD.out, List.length_drop] <;> omega)
       rw [show (ap).drop (aw : Int).toNat = bT from hD.out.symm] at hr27
       replace hr27 : Kd.C k55 _ ul bT.length bT := (by rw [hA27]; exact hr27)
       rw [← u1, ← hA27, ← hc27] at hcut27
       have HR152 := Aside0.mk hr27
       have HC152 := Aside0.mk (show bT.length ≤ c27 from by rw [u1, hc27]; exact Nat.sub_le_sub_right hroom27 _)
       clear hr27 hC27 hroom27 hi027 hsz27 hc27
       have KY27 := Aside0.mk u1
       have qY := Aside0.mk hA27
       clear u1 hA27
       have KL27 := Aside0.mk (show (aw : Int).toNat ≤ ap.length from by omega)
       replace CT := eq_true CT
       refine start_ (n := 13) (S := fun w' => w'.cell? ⟨ah, 0, none⟩ = some (.int .i64 ((rd_T55 l0 aa).f0)) ∧ w'.cell? ⟨ah, 1, none⟩ = some (.int .i64 ((rd_T55 l0 aa).f1)) ∧ w'.cell? ⟨ah, 2, none⟩ = some (.int .i64 ((rd_T55 l0 aa).f2))) (ds := []) (M_ 0 13) (by kernel_rfl) rfl rfl ⟨(blk_cell ab.out 0).trans rfl, (blk_cell ab.out 1).trans rfl, (blk_cell ab.out 2).trans rfl⟩ (fun hHeld => ?_); refine with_tabW spec_shSorted.tab8 spec_shSorted.bits8 (fun HT_ HW_ => ?_)
       generalize mn.drew = Cp at ae ab HB HR139 HR152 hHeld ⊢
       refine pu_ 1 30 (N_ 13 2) ?_
       refine pu_ 2 31 (N_ 13 6) ?_
       refine pu_ 3 32 (N_ 13 14) ?_
       refine pu_ 8 37 (N_ 13 270) ?_
       refine pu_ 9 38 (N_ 13 782) ?_
       refine pu_ 10 39 (N_ 13 1806) ?_
       refine tk3_ 5 34 (N_ 13 1838) hHeld ?_
       refine join_ (σ := Value × Value × Value) 3 (N_ 13 1919) (fun s_ => [(29, s_.1), (33, s_.2.1), (35, s_.2.2)]) (fun s_ w' => (w'.cell? ⟨ah, 0, none⟩ = some (.int .i64 ((rd_T55 l0 aa).f0)) ∧ w'.cell? ⟨ah, 1, none⟩ = some (.int .i64 ((rd_T55 l0 aa).f1)) ∧ w'.cell? ⟨ah, 2, none⟩ = some (.int .i64 ((rd_T55 l0 aa).f2))) ∧ (Kd.R k55 55 w' w.heap.size (fun k_ => some k_ ≠ (s_.2.2 : Value).ownBlock ∧ some k_ ≠ (.slice (some bo) ap.length cP : Value).ownBlock ∧ k_ ≠ ah) s_.2.1 dI) ∧ (Kd.R k55 55 w' w.heap.size (fun k_ => some k_ ≠ (s_.2.1 : Value).ownBlock ∧ some k_ ≠ (.slice (some bo) ap.length cP : Value).ownBlock ∧ k_ ≠ ah) s_.2.2 cv) ∧ (Kd.R k55 55 w' w.heap.size (fun k_ => some k_ ≠ (s_.2.1 : Value).ownBlock ∧ some k_ ≠ (s_.2.2 : Value).ownBlock ∧ k_ ≠ ah) (.slice (some bo) ap.length cP) ap) ∧ (w'.heap[ah]? = some (.cells #[.int .i64 ((rd_T55 l0 aa).f0), .int .i64 ((rd_T55 l0 aa).f1), .int .i64 ((rd_T55 l0 aa).f2)] 55 (0, 0))) ∧ (Below w.heap.size w w')) ?_ ?_
       rotate_left
       ·intro hCont
        refine two_ (i := 0) (j := 6) (Ni := some 29) (Nj := some 35) (N_ 13 1839) (N_ 13 1902) rfl rfl rfl rfl (two_of HT_.out (by kernel_rfl)) (by decide) (by decide) (fun K hK => ?_) (fun K hK => ?_)
        ·skip
         refine Kd.R_lit_step k55 _ 55 ?hg (N := 29) ?hd (xs := ([] : List (S55))) (inner := []) (ok := fun _ => True) (okp := fun _ => True) ?hr ?hp (fun _ hk => hk) trivial (Below.refl _ _) (Nat.le_refl _) (by simp) ?_; (case hd => rfl); (case hg => rfl); (case hr => exact Z41); (case hp => exact (Reps.none _ _))
         intro nI vV ho29 hb hg_ hnew_
         clear hg_ hnew_
         (first | rw [← ql.out] at ho29 | (simp only [Int.reduceToNat] at ho29; rw [← ql.out] at ho29))
         have n0_ := Aside0.mk (Kd.R_elder' (Z3 ae) (Kd.R_base ho29) hb)
         have n1_ := Aside0.mk (Kd.R_lower (Kd.R_newB (Kd.R_new' ho29 (Yd_ ae)) (g := ah) (o := .cells #[.int .i64 ((rd_T55 l0 aa).f0), .int .i64 ((rd_T55 l0 aa).f1), .int .i64 ((rd_T55 l0 aa).f2)] 55 (0, 0)) (Z7 ab)) (below_size (Z12)))
         have n2_ := Aside0.mk (Ye_ ab)
         have n3_ := Aside0.mk (Kd.C_below (Z13 HR139) hb)
         have n4_ := Aside0.mk (Kd.C_below (Z13 HR152) hb)
         have n5_ := Aside0.mk (below_step (Z12) hb)
         clear ae
         clear ab
         clear HR139
         clear HR152
         clear HB
         have ae := n0_
         have d1 := n1_
         have ab := n2_
         have HR139 := n3_
         have HR152 := n4_
         have HB := n5_
         clear n0_ n1_ n2_ n3_ n4_ n5_
         clear hb ho29
         refine hK.out _ _ ⟨(blk_cell ab.out 0).trans rfl, (blk_cell ab.out 1).trans rfl, (blk_cell ab.out 2).trans rfl⟩ (fun hHeld => ?_)
         clear hK K
         refine norm_ (a' := ?_) ?_ ?_
         rotate_left
         ·show Act.put _ (some 29) _ = _
          simp only [Act.put, List.setIfInBounds_toArray, List.set_cons_zero, List.set_cons_succ, i64_w, i32_w]
          rfl
         refine two_ (i := 4) (j := 6) (Ni := some 33) (Nj := some 35) (N_ 13 1855) (N_ 13 1903) rfl rfl rfl rfl (two_of HT_.out (by kernel_rfl)) (by decide) (by decide) (fun K hK => ?_) (fun K hK => ?_)
         ·skip
          refine Kd.R_append_rows_step k55 (w0 := w) w.heap.size (by rfl) (.tmp 29) (.tmp 32) 24 55 (.agg #[(.int .i64 0), (.int .i64 0), (.int .i64 0)]) 24 rfl Tryz.underlying24 info55 rfl (by decide) (by omega) nI f9 cH _ _ _ (fun k_ => some k_ ≠ (.slice (some bo) ap.length cP : Value).ownBlock ∧ k_ ≠ ah) (fun _ => False) rfl rfl ?aO ?aR (fun _ _ h => h) (fun _ h => h.elim) ?aF ?aB ?aS ?aL ?_
          (case aR => exact Z92)
          (case aB => exact Z12)
          (case aF => exact (fun k_ hk => ⟨Kd.fresh' (Yd_ ae) k_ hk, Kd.freshB (g := ah) (o := .cells #[.int .i64 ((rd_T55 l0 aa).f0), .int .i64 ((rd_T55 l0 aa).f1), .int .i64 ((rd_T55 l0 aa).f2)] 55 (0, 0)) (Z7 ab) k_ hk⟩))
          (case aO => exact (Z65 d1))
          (case aS => exact (below_size (Z12)))
          (case aL => exact Z83 mj)
          intro ju yJ ho hb hg hat
          rw [← nD.out] at ho
          have n0_ := Aside0.mk (Kd.R_after (ok := (fun k_ => k_ ≠ ah)) (Z3 ae) hg hat)
          have n1_ := Aside0.mk (blk_grown (g := ah) (o := .cells #[.int .i64 ((rd_T55 l0 aa).f0), .int .i64 ((rd_T55 l0 aa).f1), .int .i64 ((rd_T55 l0 aa).f2)] 55 (0, 0)) (Z7 ab) hg (Kd.R_away d1.out (fun _ hk => hk.2)))
          have n2_ := Aside0.mk (hb)
          have n3_ := Aside0.mk ((show Kd.C k55 yJ (some bo) cH.length cH from by rw [g9.out]; exact Kd.C_take (m := (aw : Int).toNat) ((Kd.R_reads' (Kd.R_after (ok := (fun k_ => k_ ≠ ah)) (Z3 ae) hg hat)).2.2) KL26.out))
          have n4_ := Aside0.mk ((show Kd.C k55 yJ ul bT.length bT from by rw [hD.out, qY.out]; exact Kd.C_drop (m := (aw : Int).toNat) (c := cP) ((Kd.R_reads' (Kd.R_after (ok := (fun k_ => k_ ≠ ah)) (Z3 ae) hg hat)).2.2) KL27.out ((Kd.R_reads' (Kd.R_after (ok := (fun k_ => k_ ≠ ah)) (Z3 ae) hg hat)).2.1)))
          have n5_ := Aside0.mk (ho)
          clear ae
          clear ab
          clear HB
          clear HR139
          clear HR152
          clear d1
          have ae := n0_
          have ab := n1_
          have HB := n2_
          have HR139 := n3_
          have HR152 := n4_
          have dN := n5_
          clear n0_ n1_ n2_ n3_ n4_ n5_
          clear ho hb hg hat
          refine hK.out _ _ ⟨(blk_cell ab.out 0).trans rfl, (blk_cell ab.out 1).trans rfl, (blk_cell ab.out 2).trans rfl⟩ (fun hHeld => ?_)
          clear hK K
          refine norm_ (a' := ?_) ?_ ?_
          rotate_left
          ·show Act.put _ (some 33) _ = _
           simp only [Act.put, List.setIfInBounds_toArray, List.set_cons_zero, List.set_cons_succ, i64_w, i32_w]
           rfl
          refine one_ (i := 6) (N := some 35) (N_ 13 1919) rfl rfl (one_of HT_.out (by kernel_rfl)) (by decide) (fun K hK => ?_)
          refine Kd.R_lit_step k55 _ 55 ?hg (N := 35) ?hd (xs := ([(⟨((rd_T55 l0 aa).f0), ((rd_T55 l0 aa).f1), ((rd_T55 l0 aa).f2)⟩ : S55)] : List (S55))) (inner := [.int .i64 ((rd_T55 l0 aa).f0), .int .i64 ((rd_T55 l0 aa).f1), .int .i64 ((rd_T55 l0 aa).f2)]) (ok := fun _ => True) (okp := fun _ => True) ?hr ?hp (fun _ hk => hk) trivial (Below.refl _ _) (Nat.le_refl _) (by simp) ?_; (case hd => rfl); (case hg => rfl); (case hr => exact Z41); (case hp => exact (Reps.c3 (show Kd.M k55 _ _ _ (⟨((rd_T55 l0 aa).f0), ((rd_T55 l0 aa).f1), ((rd_T55 l0 aa).f2)⟩ : S55) [.int .i64 ((rd_T55 l0 aa).f0), .int .i64 ((rd_T55 l0 aa).f1), .int .i64 ((rd_T55 l0 aa).f2)] from (k55_mkM _ _ _ (⟨((rd_T55 l0 aa).f0), ((rd_T55 l0 aa).f1), ((rd_T55 l0 aa).f2)⟩ : S55) )) (Reps.none _ _)))
          intro ez w31 ho32 hb hg_ hnew_
          clear hg_ hnew_
          (first | rw [← lp.out] at ho32 | (simp only [Int.reduceToNat] at ho32; rw [← lp.out] at ho32))
          have n0_ := Aside0.mk (Kd.R_elder' (Z3 ae) (Kd.R_base ho32) hb)
          have n1_ := Aside0.mk (Kd.R_elder' (Z3 dN) (Kd.R_base ho32) hb)
          have n2_ := Aside0.mk (Kd.R_lower (Kd.R_newB (Kd.R_new' (Kd.R_new' ho32 (Yd_ ae)) (Yd_ dN)) (g := ah) (o := .cells #[.int .i64 ((rd_T55 l0 aa).f0), .int .i64 ((rd_T55 l0 aa).f1), .int .i64 ((rd_T55 l0 aa).f2)] 55 (0, 0)) (Z7 ab)) (below_size (Z12)))
          have n3_ := Aside0.mk (Ye_ ab)
          have n4_ := Aside0.mk (Kd.C_below (Z13 HR139) hb)
          have n5_ := Aside0.mk (Kd.C_below (Z13 HR152) hb)
          have n6_ := Aside0.mk (below_step (Z12) hb)
          clear ae
          clear dN
          clear ab
          clear HR139
          clear HR152
          clear HB
          have ae := n0_
          have dN := n1_
          have bV := n2_
          have ab := n3_
          have HR139 := n4_
          have HR152 := n5_
          have HB := n6_
          clear n0_ n1_ n2_ n3_ n4_ n5_ n6_
          clear hb ho32
          refine hK.out _ _ ⟨(blk_cell ab.out 0).trans rfl, (blk_cell ab.out 1).trans rfl, (blk_cell ab.out 2).trans rfl⟩ (fun hHeld => ?_)
          clear hK K
          refine norm_ (a' := ?_) ?_ ?_
          rotate_left
          ·show Act.put _ (some 35) _ = _
           simp only [Act.put, List.setIfInBounds_toArray, List.set_cons_zero, List.set_cons_succ, i64_w, i32_w]
           rfl
          exact norm_ (Z55) (hCont (nI, ju, ez) _ ⟨hHeld, (Z43 dN), (Z119 bV), (Z114), (Z7 ab), (Z12)⟩)
         skip
         refine Kd.R_lit_step k55 _ 55 ?hg (N := 35) ?hd (xs := ([(⟨((rd_T55 l0 aa).f0), ((rd_T55 l0 aa).f1), ((rd_T55 l0 aa).f2)⟩ : S55)] : List (S55))) (inner := [.int .i64 ((rd_T55 l0 aa).f0), .int .i64 ((rd_T55 l0 aa).f1), .int .i64 ((rd_T55 l0 aa).f2)]) (ok := fun _ => True) (okp := fun _ => True) ?hr ?hp (fun _ hk => hk) trivial (Below.refl _ _) (Nat.le_refl _) (by simp) ?_; (case hd => rfl); (case hg => rfl); (case hr => exact Z41); (case hp => exact (Reps.c3 (show Kd.M k55 _ _ _ (⟨((rd_T55 l0 aa).f0), ((rd_T55 l0 aa).f1), ((rd_T55 l0 aa).f2)⟩ : S55) [.int .i64 ((rd_T55 l0 aa).f0), .int .i64 ((rd_T55 l0 aa).f1), .int .i64 ((rd_T55 l0 aa).f2)] from (k55_mkM _ _ _ (⟨((rd_T55 l0 aa).f0), ((rd_T55 l0 aa).f1), ((rd_T55 l0 aa).f2)⟩ : S55) )) (Reps.none _ _)))
         intro ez yJ ho31 hb hg_ hnew_
         clear hg_ hnew_
         (first | rw [← lp.out] at ho31 | (simp only [Int.reduceToNat] at ho31; rw [← lp.out] at ho31))
         have n0_ := Aside0.mk (Kd.R_elder' (Z3 ae) (Kd.R_base ho31) hb)
         have n1_ := Aside0.mk (Kd.R_elder' (Z3 d1) (Kd.R_base ho31) hb)
         have n2_ := Aside0.mk (Kd.R_lower (Kd.R_newB (Kd.R_new' (Kd.R_new' ho31 (Yd_ ae)) (Yd_ d1)) (g := ah) (o := .cells #[.int .i64 ((rd_T55 l0 aa).f0), .int .i64 ((rd_T55 l0 aa).f1), .int .i64 ((rd_T55 l0 aa).f2)] 55 (0, 0)) (Z7 ab)) (below_size (Z12)))
         have n3_ := Aside0.mk (Ye_ ab)
         have n4_ := Aside0.mk (Kd.C_below (Z13 HR139) hb)
         have n5_ := Aside0.mk (Kd.C_below (Z13 HR152) hb)
         have n6_ := Aside0.mk (below_step (Z12) hb)
         clear ae
         clear d1
         clear ab
         clear HR139
         clear HR152
         clear HB
         have ae := n0_
         have d1 := n1_
         have bV := n2_
         have ab := n3_
         have HR139 := n4_
         have HR152 := n5_
         have HB := n6_
         clear n0_ n1_ n2_ n3_ n4_ n5_ n6_
         clear hb ho31
         refine hK.out _ _ ⟨(blk_cell ab.out 0).trans rfl, (blk_cell ab.out 1).trans rfl, (blk_cell ab.out 2).trans rfl⟩ (fun hHeld => ?_)
         clear hK K
         refine norm_ (a' := ?_) ?_ ?_
         rotate_left
         ·show Act.put _ (some 35) _ = _
          simp only [Act.put, List.setIfInBounds_toArray, List.set_cons_zero, List.set_cons_succ, i64_w, i32_w]
          rfl
         refine one_ (i := 4) (N := some 33) (N_ 13 1919) rfl rfl (one_of HT_.out (by kernel_rfl)) (by decide) (fun K hK => ?_)
         refine Kd.R_append_rows_step k55 (w0 := w) w.heap.size (by rfl) (.tmp 29) (.tmp 32) 24 55 (.agg #[(.int .i64 0), (.int .i64 0), (.int .i64 0)]) 24 rfl Tryz.underlying24 info55 rfl (by decide) (by omega) nI f9 cH _ _ _ (fun k_ => some k_ ≠ (.slice (some bo) ap.length cP : Value).ownBlock ∧ some k_ ≠ (ez : Value).ownBlock ∧ k_ ≠ ah) (fun _ => False) rfl rfl ?aO ?aR (fun _ _ h => h) (fun _ h => h.elim) ?aF ?aB ?aS ?aL ?_
         (case aR => exact Z92)
         (case aB => exact Z12)
         (case aF => exact (fun k_ hk => ⟨Kd.fresh' (Yd_ ae) k_ hk, Kd.fresh' (Yd_ bV) k_ hk, Kd.freshB (g := ah) (o := .cells #[.int .i64 ((rd_T55 l0 aa).f0), .int .i64 ((rd_T55 l0 aa).f1), .int .i64 ((rd_T55 l0 aa).f2)] 55 (0, 0)) (Z7 ab) k_ hk⟩))
         (case aO => exact (Z120 d1))
         (case aS => exact (below_size (Z12)))
         (case aL => exact Z83 mj)
         intro ju yf ho hb hg hat
         rw [← nD.out] at ho
         have n0_ := Aside0.mk (Kd.R_after (ok := (fun k_ => some k_ ≠ (ez : Value).ownBlock ∧ k_ ≠ ah)) (Z48) hg hat)
         have n1_ := Aside0.mk (blk_grown (g := ah) (o := .cells #[.int .i64 ((rd_T55 l0 aa).f0), .int .i64 ((rd_T55 l0 aa).f1), .int .i64 ((rd_T55 l0 aa).f2)] 55 (0, 0)) (Z7 ab) hg (Kd.R_away d1.out (fun _ hk => hk.1.2)))
         have n2_ := Aside0.mk (Kd.R_after (ok := (fun k_ => some k_ ≠ (.slice (some bo) ap.length cP : Value).ownBlock ∧ k_ ≠ ah)) (Z121 bV) hg hat)
         have n3_ := Aside0.mk (hb)
         have n4_ := Aside0.mk ((show Kd.C k55 yf (some bo) cH.length cH from by rw [g9.out]; exact Kd.C_take (m := (aw : Int).toNat) ((Kd.R_reads' (Kd.R_after (ok := (fun k_ => some k_ ≠ (ez : Value).ownBlock ∧ k_ ≠ ah)) (Z48) hg hat)).2.2) KL26.out))
         have n5_ := Aside0.mk ((show Kd.C k55 yf ul bT.length bT from by rw [hD.out, qY.out]; exact Kd.C_drop (m := (aw : Int).toNat) (c := cP) ((Kd.R_reads' (Kd.R_after (ok := (fun k_ => some k_ ≠ (ez : Value).ownBlock ∧ k_ ≠ ah)) (Z48) hg hat)).2.2) KL27.out ((Kd.R_reads' (Kd.R_after (ok := (fun k_ => some k_ ≠ (ez : Value).ownBlock ∧ k_ ≠ ah)) (Z48) hg hat)).2.1)))
         have n6_ := Aside0.mk (ho)
         clear ae
         clear ab
         clear bV
         clear HB
         clear HR139
         clear HR152
         clear d1
         have ae := n0_
         have ab := n1_
         have bV := n2_
         have HB := n3_
         have HR139 := n4_
         have HR152 := n5_
         have dN := n6_
         clear n0_ n1_ n2_ n3_ n4_ n5_ n6_
         clear ho hb hg hat
         refine hK.out _ _ ⟨(blk_cell ab.out 0).trans rfl, (blk_cell ab.out 1).trans rfl, (blk_cell ab.out 2).trans rfl⟩ (fun hHeld => ?_)
         clear hK K
         refine norm_ (a' := ?_) ?_ ?_
         rotate_left
         ·show Act.put _ (some 33) _ = _
          simp only [Act.put, List.setIfInBounds_toArray, List.set_cons_zero, List.set_cons_succ, i64_w, i32_w]
          rfl
         exact norm_ (Z55) (hCont (nI, ju, ez) _ ⟨hHeld, (Z58 dN), (Z43 bV), (Z43 ae), (Z7 ab), (Z12)⟩)
        skip
        refine Kd.R_lit_step k55 _ 55 ?hg (N := 35) ?hd (xs := ([(⟨((rd_T55 l0 aa).f0), ((rd_T55 l0 aa).f1), ((rd_T55 l0 aa).f2)⟩ : S55)] : List (S55))) (inner := [.int .i64 ((rd_T55 l0 aa).f0), .int .i64 ((rd_T55 l0 aa).f1), .int .i64 ((rd_T55 l0 aa).f2)]) (ok := fun _ => True) (okp := fun _ => True) ?hr ?hp (fun _ hk => hk) trivial (Below.refl _ _) (Nat.le_refl _) (by simp) ?_; (case hd => rfl); (case hg => rfl); (case hr => exact Z41); (case hp => exact (Reps.c3 (show Kd.M k55 _ _ _ (⟨((rd_T55 l0 aa).f0), ((rd_T55 l0 aa).f1), ((rd_T55 l0 aa).f2)⟩ : S55) [.int .i64 ((rd_T55 l0 aa).f0), .int .i64 ((rd_T55 l0 aa).f1), .int .i64 ((rd_T55 l0 aa).f2)] from (k55_mkM _ _ _ (⟨((rd_T55 l0 aa).f0), ((rd_T55 l0 aa).f1), ((rd_T55 l0 aa).f2)⟩ : S55) )) (Reps.none _ _)))
        intro ez vV ho29 hb hg_ hnew_
        clear hg_ hnew_
        (first | rw [← lp.out] at ho29 | (simp only [Int.reduceToNat] at ho29; rw [← lp.out] at ho29))
        have n0_ := Aside0.mk (Kd.R_elder' (Z3 ae) (Kd.R_base ho29) hb)
        have n1_ := Aside0.mk (Kd.R_lower (Kd.R_newB (Kd.R_new' ho29 (Yd_ ae)) (g := ah) (o := .cells #[.int .i64 ((rd_T55 l0 aa).f0), .int .i64 ((rd_T55 l0 aa).f1), .int .i64 ((rd_T55 l0 aa).f2)] 55 (0, 0)) (Z7 ab)) (below_size (Z12)))
        have n2_ := Aside0.mk (Ye_ ab)
        have n3_ := Aside0.mk (Kd.C_below (Z13 HR139) hb)
        have n4_ := Aside0.mk (Kd.C_below (Z13 HR152) hb)
        have n5_ := Aside0.mk (below_step (Z12) hb)
        clear ae
        clear ab
        clear HR139
        clear HR152
        clear HB
        have ae := n0_
        have bV := n1_
        have ab := n2_
        have HR139 := n3_
        have HR152 := n4_
        have HB := n5_
        clear n0_ n1_ n2_ n3_ n4_ n5_
        clear hb ho29
        refine hK.out _ _ ⟨(blk_cell ab.out 0).trans rfl, (blk_cell ab.out 1).trans rfl, (blk_cell ab.out 2).trans rfl⟩ (fun hHeld => ?_)
        clear hK K
        refine norm_ (a' := ?_) ?_ ?_
        rotate_left
        ·show Act.put _ (some 35) _ = _
         simp only [Act.put, List.setIfInBounds_toArray, List.set_cons_zero, List.set_cons_succ, i64_w, i32_w]
         rfl
        refine one_ (i := 0) (N := some 29) (N_ 13 1903) rfl rfl (one_of HT_.out (by kernel_rfl)) (by decide) (fun K hK => ?_)
        refine Kd.R_lit_step k55 _ 55 ?hg (N := 29) ?hd (xs := ([] : List (S55))) (inner := []) (ok := fun _ => True) (okp := fun _ => True) ?hr ?hp (fun _ hk => hk) trivial (Below.refl _ _) (Nat.le_refl _) (by simp) ?_; (case hd => rfl); (case hg => rfl); (case hr => exact Z41); (case hp => exact (Reps.none _ _))
        intro nI yJ ho31 hb hg_ hnew_
        clear hg_ hnew_
        (first | rw [← ql.out] at ho31 | (simp only [Int.reduceToNat] at ho31; rw [← ql.out] at ho31))
        have n0_ := Aside0.mk (Kd.R_elder' (Z3 ae) (Kd.R_base ho31) hb)
        have n1_ := Aside0.mk (Kd.R_elder' (Z3 bV) (Kd.R_base ho31) hb)
        have n2_ := Aside0.mk (Kd.R_lower (Kd.R_newB (Kd.R_new' (Kd.R_new' ho31 (Yd_ ae)) (Yd_ bV)) (g := ah) (o := .cells #[.int .i64 ((rd_T55 l0 aa).f0), .int .i64 ((rd_T55 l0 aa).f1), .int .i64 ((rd_T55 l0 aa).f2)] 55 (0, 0)) (Z7 ab)) (below_size (Z12)))
        have n3_ := Aside0.mk (Ye_ ab)
        have n4_ := Aside0.mk (Kd.C_below (Z13 HR139) hb)
        have n5_ := Aside0.mk (Kd.C_below (Z13 HR152) hb)
        have n6_ := Aside0.mk (below_step (Z12) hb)
        clear ae
        clear bV
        clear ab
        clear HR139
        clear HR152
        clear HB
        have ae := n0_
        have bV := n1_
        have d1 := n2_
        have ab := n3_
        have HR139 := n4_
        have HR152 := n5_
        have HB := n6_
        clear n0_ n1_ n2_ n3_ n4_ n5_ n6_
        clear hb ho31
        refine hK.out _ _ ⟨(blk_cell ab.out 0).trans rfl, (blk_cell ab.out 1).trans rfl, (blk_cell ab.out 2).trans rfl⟩ (fun hHeld => ?_)
        clear hK K
        refine norm_ (a' := ?_) ?_ ?_
        rotate_left
        ·show Act.put _ (some 29) _ = _
         simp only [Act.put, List.setIfInBounds_toArray, List.set_cons_zero, List.set_cons_succ, i64_w, i32_w]
         rfl
        refine one_ (i := 4) (N := some 33) (N_ 13 1919) rfl rfl (one_of HT_.out (by kernel_rfl)) (by decide) (fun K hK => ?_)
        refine Kd.R_append_rows_step k55 (w0 := w) w.heap.size (by rfl) (.tmp 29) (.tmp 32) 24 55 (.agg #[(.int .i64 0), (.int .i64 0), (.int .i64 0)]) 24 rfl Tryz.underlying24 info55 rfl (by decide) (by omega) nI f9 cH _ _ _ (fun k_ => some k_ ≠ (.slice (some bo) ap.length cP : Value).ownBlock ∧ some k_ ≠ (ez : Value).ownBlock ∧ k_ ≠ ah) (fun _ => False) rfl rfl ?aO ?aR (fun _ _ h => h) (fun _ h => h.elim) ?aF ?aB ?aS ?aL ?_
        (case aR => exact Z92)
        (case aB => exact Z12)
        (case aF => exact (fun k_ hk => ⟨Kd.fresh' (Yd_ ae) k_ hk, Kd.fresh' (Yd_ bV) k_ hk, Kd.freshB (g := ah) (o := .cells #[.int .i64 ((rd_T55 l0 aa).f0), .int .i64 ((rd_T55 l0 aa).f1), .int .i64 ((rd_T55 l0 aa).f2)] 55 (0, 0)) (Z7 ab) k_ hk⟩))
        (case aO => exact (Z122 d1))
        (case aS => exact (below_size (Z12)))
        (case aL => exact Z83 mj)
        intro ju yf ho hb hg hat
        rw [← nD.out] at ho
        have n0_ := Aside0.mk (Kd.R_after (ok := (fun k_ => some k_ ≠ (ez : Value).ownBlock ∧ k_ ≠ ah)) (Z49) hg hat)
        have n1_ := Aside0.mk (blk_grown (g := ah) (o := .cells #[.int .i64 ((rd_T55 l0 aa).f0), .int .i64 ((rd_T55 l0 aa).f1), .int .i64 ((rd_T55 l0 aa).f2)] 55 (0, 0)) (Z7 ab) hg (Kd.R_away d1.out (fun _ hk => hk.2)))
        have n2_ := Aside0.mk (Kd.R_after (ok := (fun k_ => some k_ ≠ (.slice (some bo) ap.length cP : Value).ownBlock ∧ k_ ≠ ah)) (Z123 bV) hg hat)
        have n3_ := Aside0.mk (hb)
        have n4_ := Aside0.mk ((show Kd.C k55 yf (some bo) cH.length cH from by rw [g9.out]; exact Kd.C_take (m := (aw : Int).toNat) ((Kd.R_reads' (Kd.R_after (ok := (fun k_ => some k_ ≠ (ez : Value).ownBlock ∧ k_ ≠ ah)) (Z49) hg hat)).2.2) KL26.out))
        have n5_ := Aside0.mk ((show Kd.C k55 yf ul bT.length bT from by rw [hD.out, qY.out]; exact Kd.C_drop (m := (aw : Int).toNat) (c := cP) ((Kd.R_reads' (Kd.R_after (ok := (fun k_ => some k_ ≠ (ez : Value).ownBlock ∧ k_ ≠ ah)) (Z49) hg hat)).2.2) KL27.out ((Kd.R_reads' (Kd.R_after (ok := (fun k_ => some k_ ≠ (ez : Value).ownBlock ∧ k_ ≠ ah)) (Z49) hg hat)).2.1)))
        have n6_ := Aside0.mk (ho)
        clear ae
        clear ab
        clear bV
        clear HB
        clear HR139
        clear HR152
        clear d1
        have ae := n0_
        have ab := n1_
        have bV := n2_
        have HB := n3_
        have HR139 := n4_
        have HR152 := n5_
        have dN := n6_
        clear n0_ n1_ n2_ n3_ n4_ n5_ n6_
        clear ho hb hg hat
        refine hK.out _ _ ⟨(blk_cell ab.out 0).trans rfl, (blk_cell ab.out 1).trans rfl, (blk_cell ab.out 2).trans rfl⟩ (fun hHeld => ?_)
        clear hK K
        refine norm_ (a' := ?_) ?_ ?_
        rotate_left
        ·show Act.put _ (some 33) _ = _
         simp only [Act.put, List.setIfInBounds_toArray, List.set_cons_zero, List.set_cons_succ, i64_w, i32_w]
         rfl
        exact norm_ (Z55) (hCont (nI, ju, ez) _ ⟨hHeld, (Z58 dN), (Z43 bV), (Z43 ae), (Z7 ab), (Z12)⟩)
       rintro ⟨nI, ju, ez⟩ qH ⟨hS_, h0_, h1_, h2_, h3_, h4_⟩
       have n0_ : Aside0 (Kd.R k55 55 qH w.heap.size (fun k_ => some k_ ≠ (ez : Value).ownBlock ∧ some k_ ≠ (.slice (some bo) ap.length cP : Value).ownBlock ∧ k_ ≠ ah) ju dI) := ⟨h0_⟩
       have n1_ : Aside0 (Kd.R k55 55 qH w.heap.size (fun k_ => some k_ ≠ (ju : Value).ownBlock ∧ some k_ ≠ (.slice (some bo) ap.length cP : Value).ownBlock ∧ k_ ≠ ah) ez cv) := ⟨h1_⟩
       have n2_ : Aside0 (Kd.R k55 55 qH w.heap.size (fun k_ => some k_ ≠ (ju : Value).ownBlock ∧ some k_ ≠ (ez : Value).ownBlock ∧ k_ ≠ ah) (.slice (some bo) ap.length cP) ap) := ⟨h2_⟩
       have n3_ : Aside0 (qH.heap[ah]? = some (.cells #[.int .i64 ((rd_T55 l0 aa).f0), .int .i64 ((rd_T55 l0 aa).f1), .int .i64 ((rd_T55 l0 aa).f2)] 55 (0, 0))) := ⟨h3_⟩
       have n4_ : Aside0 (Below w.heap.size w qH) := ⟨h4_⟩
       clear ae
       clear ab
       clear HB
       clear h0_ h1_ h2_ h3_ h4_
       have dN := n0_
       have bV := n1_
       have ae := n2_
       have ab := n3_
       have HB := n4_
       clear n0_ n1_ n2_ n3_ n4_
       have hHeld : qH.cell? ⟨ah, 0, none⟩ = some (.int .i64 ((rd_T55 l0 aa).f0)) ∧ qH.cell? ⟨ah, 1, none⟩ = some (.int .i64 ((rd_T55 l0 aa).f1)) ∧ qH.cell? ⟨ah, 2, none⟩ = some (.int .i64 ((rd_T55 l0 aa).f2)) := hS_
       have n_ := Aside0.mk (show Kd.C k55 _ (some bo) cH.length cH from by rw [g9.out]; exact Kd.C_take (m := (aw : Int).toNat) ((Kd.R_reads' ae.out).2.2) KL26.out)
       (try clear HR139)
       have HR139 := n_
       clear n_
       have n_ := Aside0.mk (show Kd.C k55 _ ul bT.length bT from by rw [hD.out, qY.out]; exact Kd.C_drop (m := (aw : Int).toNat) (c := cP) ((Kd.R_reads' ae.out).2.2) KL27.out ((Kd.R_reads' ae.out).2.1))
       (try clear HR152)
       have HR152 := n_
       clear n_
       obtain ⟨hV, hX, uH⟩ := Kd.R_slice bV.out
       (first | subst uH | (injection uH with f1_ f2_ f3_; have f4_ := f1_.symm; have f5_ := f3_.symm; clear f1_ f2_ f3_; subst f4_; subst f5_))
       refine norm_ (a' := ?_) ?_ ?_
       rotate_left
       ·simp only [putAll, Act.put, List.setIfInBounds_toArray, List.set_cons_zero, List.set_cons_succ]
        rfl
       refine one_ (i := 7) (N := some 36) (M_ 11 2) rfl rfl (one_of HT_.out (by kernel_rfl)) (by decide) (fun K hK => ?_)
       refine Kd.R_append_rows_step k55 (w0 := w) w.heap.size (by rfl) (.tmp 33) (.tmp 35) 24 55 (.agg #[(.int .i64 0), (.int .i64 0), (.int .i64 0)]) 24 rfl Tryz.underlying24 info55 rfl (by decide) (by omega) ju dI cv _ _ _ (fun k_ => some k_ ≠ (.slice (some bo) ap.length cP : Value).ownBlock ∧ some k_ ≠ (.slice hV cv.length hX : Value).ownBlock ∧ k_ ≠ ah) (fun _ => False) rfl rfl ?aO ?aR (fun _ _ h => h) (fun _ h => h.elim) ?aF ?aB ?aS ?aL ?_
       (case aR => exact Z1 bV)
       (case aB => exact Z12)
       (case aF => exact (fun k_ hk => ⟨Kd.fresh' (Yd_ ae) k_ hk, Kd.fresh' (Yd_ bV) k_ hk, Kd.freshB (g := ah) (o := .cells #[.int .i64 ((rd_T55 l0 aa).f0), .int .i64 ((rd_T55 l0 aa).f1), .int .i64 ((rd_T55 l0 aa).f2)] 55 (0, 0)) (Z7 ab) k_ hk⟩))
       (case aO => exact (Z58 dN))
       (case aS => exact (below_size (Z12)))
       (case aL => exact Z83 tz)
       intro v147 ub ho hb hg hat
       rw [← Ny146.out] at ho
       have n0_ := Aside0.mk (Kd.R_after (ok := (fun k_ => some k_ ≠ (.slice hV cv.length hX : Value).ownBlock ∧ k_ ≠ ah)) (Z44 ae) hg hat)
       have n1_ := Aside0.mk (blk_grown (g := ah) (o := .cells #[.int .i64 ((rd_T55 l0 aa).f0), .int .i64 ((rd_T55 l0 aa).f1), .int .i64 ((rd_T55 l0 aa).f2)] 55 (0, 0)) (Z7 ab) hg (Kd.R_away dN.out (fun _ hk => hk.2.2)))
       have n2_ := Aside0.mk (Kd.R_after (ok := (fun k_ => some k_ ≠ (.slice (some bo) ap.length cP : Value).ownBlock ∧ k_ ≠ ah)) (Z44 bV) hg hat)
       have n3_ := Aside0.mk (hb)
       have n4_ := Aside0.mk ((show Kd.C k55 ub (some bo) cH.length cH from by rw [g9.out]; exact Kd.C_take (m := (aw : Int).toNat) ((Kd.R_reads' (Kd.R_after (ok := (fun k_ => some k_ ≠ (.slice hV cv.length hX : Value).ownBlock ∧ k_ ≠ ah)) (Z44 ae) hg hat)).2.2) KL26.out))
       have n5_ := Aside0.mk ((show Kd.C k55 ub ul bT.length bT from by rw [hD.out, qY.out]; exact Kd.C_drop (m := (aw : Int).toNat) (c := cP) ((Kd.R_reads' (Kd.R_after (ok := (fun k_ => some k_ ≠ (.slice hV cv.length hX : Value).ownBlock ∧ k_ ≠ ah)) (Z44 ae) hg hat)).2.2) KL27.out ((Kd.R_reads' (Kd.R_after (ok := (fun k_ => some k_ ≠ (.slice hV cv.length hX : Value).ownBlock ∧ k_ ≠ ah)) (Z44 ae) hg hat)).2.1)))
       have n6_ := Aside0.mk (ho)
       clear ae
       clear ab
       clear bV
       clear HB
       clear HR139
       clear HR152
       clear dN
       have ae := n0_
       have ab := n1_
       have bV := n2_
       have HB := n3_
       have HR139 := n4_
       have HR152 := n5_
       have tA := n6_
       clear n0_ n1_ n2_ n3_ n4_ n5_ n6_
       clear ho hb hg hat
       refine hK.out _ _ ⟨(blk_cell ab.out 0).trans rfl, (blk_cell ab.out 1).trans rfl, (blk_cell ab.out 2).trans rfl⟩ (fun hHeld => ?_)
       clear hK K
       refine norm_ (a' := ?_) ?_ ?_
       rotate_left
       ·show Act.put _ (some 36) _ = _
        simp only [Act.put, List.setIfInBounds_toArray, List.set_cons_zero, List.set_cons_succ, i64_w, i32_w]
        rfl
       refine one_ (i := 11) (N := some 40) (M_ 12 1) rfl rfl (one_of HT_.out (by kernel_rfl)) (by decide) (fun K hK => ?_)
       refine Kd.R_append_rows_step k55 (w0 := w) w.heap.size (by rfl) (.tmp 36) (.tmp 39) 24 55 (.agg #[(.int .i64 0), (.int .i64 0), (.int .i64 0)]) 24 rfl Tryz.underlying24 info55 rfl (by decide) (by omega) v147 dx bT _ _ _ (fun k_ => some k_ ≠ (.slice (some bo) ap.length cP : Value).ownBlock ∧ some k_ ≠ (.slice hV cv.length hX : Value).ownBlock ∧ k_ ≠ ah) (fun _ => False) rfl rfl ?aO ?aR (fun _ _ h => h) (fun _ h => h.elim) ?aF ?aB ?aS ?aL ?_
       (case aR => repeat (first | exact (Z13 HR152) | (with_reducible refine Kd.C_alloc ?_ _) | (with_reducible refine Kd.C_drewN ?_ _) | (with_reducible refine Kd.C_drew ?_)))
       (case aB => exact Z12)
       (case aF => exact (fun k_ hk => ⟨Kd.fresh' (Yd_ ae) k_ hk, Kd.fresh' (Yd_ bV) k_ hk, Kd.freshB (g := ah) (o := .cells #[.int .i64 ((rd_T55 l0 aa).f0), .int .i64 ((rd_T55 l0 aa).f1), .int .i64 ((rd_T55 l0 aa).f2)] 55 (0, 0)) (Z7 ab) k_ hk⟩))
       (case aO => exact (Z3 tA))
       (case aS => exact (below_size (Z12)))
       (case aL => exact Z83 sp)
       intro v154 qA ho hb hg hat
       rw [← Ny153.out] at ho
       have n0_ := Aside0.mk (Kd.R_after (ok := (fun k_ => some k_ ≠ (.slice hV cv.length hX : Value).ownBlock ∧ k_ ≠ ah)) (Z3 ae) hg hat)
       have n1_ := Aside0.mk (blk_grown (g := ah) (o := .cells #[.int .i64 ((rd_T55 l0 aa).f0), .int .i64 ((rd_T55 l0 aa).f1), .int .i64 ((rd_T55 l0 aa).f2)] 55 (0, 0)) (Z7 ab) hg (Kd.R_away tA.out (fun _ hk => hk.2.2)))
       have n2_ := Aside0.mk (Kd.R_after (ok := (fun k_ => some k_ ≠ (.slice (some bo) ap.length cP : Value).ownBlock ∧ k_ ≠ ah)) (Z3 bV) hg hat)
       have n3_ := Aside0.mk (hb)
       have n4_ := Aside0.mk ((show Kd.C k55 qA (some bo) cH.length cH from by rw [g9.out]; exact Kd.C_take (m := (aw : Int).toNat) ((Kd.R_reads' (Kd.R_after (ok := (fun k_ => some k_ ≠ (.slice hV cv.length hX : Value).ownBlock ∧ k_ ≠ ah)) (Z3 ae) hg hat)).2.2) KL26.out))
       have n5_ := Aside0.mk ((show Kd.C k55 qA ul bT.length bT from by rw [hD.out, qY.out]; exact Kd.C_drop (m := (aw : Int).toNat) (c := cP) ((Kd.R_reads' (Kd.R_after (ok := (fun k_ => some k_ ≠ (.slice hV cv.length hX : Value).ownBlock ∧ k_ ≠ ah)) (Z3 ae) hg hat)).2.2) KL27.out ((Kd.R_reads' (Kd.R_after (ok := (fun k_ => some k_ ≠ (.slice hV cv.length hX : Value).ownBlock ∧ k_ ≠ ah)) (Z3 ae) hg hat)).2.1)))
       have n6_ := Aside0.mk (ho)
       clear ae
       clear ab
       clear bV
       clear HB
       clear HR139
       clear HR152
       clear tA
       have ae := n0_
       have ab := n1_
       have bV := n2_
       have HB := n3_
       have HR139 := n4_
       have HR152 := n5_
       have HO155 := n6_
       clear n0_ n1_ n2_ n3_ n4_ n5_ n6_
       clear ho hb hg hat
       refine hK.out _ _ ⟨(blk_cell ab.out 0).trans rfl, (blk_cell ab.out 1).trans rfl, (blk_cell ab.out 2).trans rfl⟩ (fun hHeld => ?_)
       clear hK K
       refine norm_ (a' := ?_) ?_ ?_
       rotate_left
       ·show Act.put _ (some 40) _ = _
        simp only [Act.put, List.setIfInBounds_toArray, List.set_cons_zero, List.set_cons_succ, i64_w, i32_w]
        rfl
       refine pu_ 12 4 (M_ 13 0) ?_
       refine done_ (done_of HT_.out (by kernel_rfl)) ?_
       try go_wp2
       go_roundg k2
       case measure => have := HK1.out; have := HK2.out; omega
       case rel => exact ⟨(BQ), (wrap64 (aa + 1)), (Z11), H', ⟨Z50⟩, ⟨Z25 HO155⟩, ⟨Z12⟩⟩
      rw [if_neg c8] at H
      have ep : decide (0 < aw) = false := decide_eq_false c8
      clear c8
      obtain ⟨ib, nJ⟩ : ∃ y_ : List (S55), y_ = (([] : List (S55))) := ⟨_, rfl⟩
      replace H : (if 0 ≤ aw then (if aw ≤ (ap.length : Int) then ((some (ap.take (aw : Int).toNat : List (S55))).bind fun dj => (if ib.length + dj.length < 5864062014805 then ((some (ib ++ dj : List (S55))).bind fun eZ => ((some (([(⟨((rd_T55 l0 aa).f0), ((rd_T55 l0 aa).f1), ((rd_T55 l0 aa).f2)⟩ : S55)] : List (S55)) : List (S55))).bind fun cO => (if eZ.length + cO.length < 5864062014805 then ((some (eZ ++ cO : List (S55))).bind fun dT => ((some (ap.drop (aw : Int).toNat : List (S55))).bind fun b6 => (if dT.length + b6.length < 5864062014805 then (spec_shSorted.l0 k2 (dT ++ b6) l0 (l0.length : Int) (wrap64 (aa + 1))) else (none)))) else (none)))) else (none))) else (none)) else (none)) = some (r1, r2) := by first | (rw [nJ]; with_reducible exact H) | (have H2_ := (Option.bind_some _ _).symm.trans H; rw [nJ]; with_reducible exact H2_) | (have H2_ := (Option.bind_some _ _).symm.trans H; with_reducible exact H2_) | with_reducible exact H | (rw [nJ]; exact H) | exact H
      have qm := Aside0.mk nJ
      clear nJ
      by_cases c37 : 0 ≤ aw
      case neg => rw [if_neg c37] at H; exact absurd H (by simp)
      rw [if_pos c37] at H
      have nK := eq_true c37
      have nL : decide (0 ≤ aw) = true := decide_eq_true c37
      clear c37
      by_cases c38 : aw ≤ (ap.length : Int)
      case neg => rw [if_neg c38] at H; exact absurd H (by simp)
      rw [if_pos c38] at H
      have c38b0 := eq_true c38
      have c38b1 : decide (aw ≤ (ap.length : Int)) = true := decide_eq_true c38
      clear c38
      obtain ⟨dj, nM⟩ : ∃ y_ : List (S55), y_ = (ap.take (aw : Int).toNat) := ⟨_, rfl⟩
      replace H : (if ib.length + dj.length < 5864062014805 then ((some (ib ++ dj : List (S55))).bind fun eZ => ((some (([(⟨((rd_T55 l0 aa).f0), ((rd_T55 l0 aa).f1), ((rd_T55 l0 aa).f2)⟩ : S55)] : List (S55)) : List (S55))).bind fun cO => (if eZ.length + cO.length < 5864062014805 then ((some (eZ ++ cO : List (S55))).bind fun dT => ((some (ap.drop (aw : Int).toNat : List (S55))).bind fun b6 => (if dT.length + b6.length < 5864062014805 then (spec_shSorted.l0 k2 (dT ++ b6) l0 (l0.length : Int) (wrap64 (aa + 1))) else (none)))) else (none)))) else (none)) = some (r1, r2) := by first | (rw [nM]; with_reducible exact H) | (have H2_ := (Option.bind_some _ _).symm.trans H; rw [nM]; with_reducible exact H2_) | (have H2_ := (Option.bind_some _ _).symm.trans H; with_reducible exact H2_) | with_reducible exact H | (rw [nM]; exact H) | exact H
      have hG := Aside0.mk nM
      clear nM
      by_cases c39 : ib.length + dj.length < 5864062014805
      case neg => rw [if_neg c39] at H; exact absurd H (by simp)
      rw [if_pos c39] at H
      have tB := Aside0.mk c39
      clear c39
      obtain ⟨eZ, nN⟩ : ∃ y_ : List (S55), y_ = (ib ++ dj) := ⟨_, rfl⟩
      replace H : ((some (([(⟨((rd_T55 l0 aa).f0), ((rd_T55 l0 aa).f1), ((rd_T55 l0 aa).f2)⟩ : S55)] : List (S55)) : List (S55))).bind fun cO => (if eZ.length + cO.length < 5864062014805 then ((some (eZ ++ cO : List (S55))).bind fun dT => ((some (ap.drop (aw : Int).toNat : List (S55))).bind fun b6 => (if dT.length + b6.length < 5864062014805 then (spec_shSorted.l0 k2 (dT ++ b6) l0 (l0.length : Int) (wrap64 (aa + 1))) else (none)))) else (none))) = some (r1, r2) := by first | (rw [nN]; with_reducible exact H) | (have H2_ := (Option.bind_some _ _).symm.trans H; rw [nN]; with_reducible exact H2_) | (have H2_ := (Option.bind_some _ _).symm.trans H; with_reducible exact H2_) | with_reducible exact H | (rw [nN]; exact H) | exact H
      have tC := Aside0.mk nN
      clear nN
      obtain ⟨cO, nO⟩ : ∃ y_ : List (S55), y_ = (([(⟨((rd_T55 l0 aa).f0), ((rd_T55 l0 aa).f1), ((rd_T55 l0 aa).f2)⟩ : S55)] : List (S55))) := ⟨_, rfl⟩
      replace H : (if eZ.length + cO.length < 5864062014805 then ((some (eZ ++ cO : List (S55))).bind fun dT => ((some (ap.drop (aw : Int).toNat : List (S55))).bind fun b6 => (if dT.length + b6.length < 5864062014805 then (spec_shSorted.l0 k2 (dT ++ b6) l0 (l0.length : Int) (wrap64 (aa + 1))) else (none)))) else (none)) = some (r1, r2) := by first | (rw [nO]; with_reducible exact H) | (have H2_ := (Option.bind_some _ _).symm.trans H; rw [nO]; with_reducible exact H2_) | (have H2_ := (Option.bind_some _ _).symm.trans H; with_reducible exact H2_) | with_reducible exact H | (rw [nO]; exact H) | exact H
      have lq := Aside0.mk nO
      clear nO
      by_cases c40 : eZ.length + cO.length < 5864062014805
      case neg => rw [if_neg c40] at H; exact absurd H (by simp)
      rw [if_pos c40] at H
      have LMc40 := Aside0.mk c40
      clear c40
      obtain ⟨dT, nP⟩ : ∃ y_ : List (S55), y_ = (eZ ++ cO) := ⟨_, rfl⟩
      replace H : ((some (ap.drop (aw : Int).toNat : List (S55))).bind fun b6 => (if dT.length + b6.length < 5864062014805 then (spec_shSorted.l0 k2 (dT ++ b6) l0 (l0.length : Int) (wrap64 (aa + 1))) else (none))) = some (r1, r2) := by first | (rw [nP]; with_reducible exact H) | (have H2_ := (Option.bind_some _ _).symm.trans H; rw [nP]; with_reducible exact H2_) | (have H2_ := (Option.bind_some _ _).symm.trans H; with_reducible exact H2_) | with_reducible exact H | (rw [nP]; exact H) | exact H
      have Ny169 := Aside0.mk nP
      clear nP
      have c41b0 := eq_true (of_decide_eq_true (Z8) : 0 ≤ aw)
      have mv := eq_true (of_decide_eq_true (Z8) : aw ≤ (ap.length : Int))
      obtain ⟨b6, nQ⟩ : ∃ y_ : List (S55), y_ = (ap.drop (aw : Int).toNat) := ⟨_, rfl⟩
      replace H : (if dT.length + b6.length < 5864062014805 then (spec_shSorted.l0 k2 (dT ++ b6) l0 (l0.length : Int) (wrap64 (aa + 1))) else (none)) = some (r1, r2) := by first | (rw [nQ]; with_reducible exact H) | (have H2_ := (Option.bind_some _ _).symm.trans H; rw [nQ]; with_reducible exact H2_) | (have H2_ := (Option.bind_some _ _).symm.trans H; with_reducible exact H2_) | with_reducible exact H | (rw [nQ]; exact H) | exact H
      have hJ := Aside0.mk nQ
      clear nQ
      by_cases c43 : dT.length + b6.length < 5864062014805
      case neg => rw [if_neg c43] at H; exact absurd H (by simp)
      rw [if_pos c43] at H
      have tD := Aside0.mk c43
      clear c43
      obtain ⟨BR, nR⟩ : ∃ y_ : List (S55), y_ = (dT ++ b6) := ⟨_, rfl⟩
      replace H : (spec_shSorted.l0 k2 BR l0 (l0.length : Int) (wrap64 (aa + 1))) = some (r1, r2) := by first | (rw [nR]; with_reducible exact H) | (have H2_ := (Option.bind_some _ _).symm.trans H; rw [nR]; with_reducible exact H2_) | (have H2_ := (Option.bind_some _ _).symm.trans H; with_reducible exact H2_) | with_reducible exact H | (rw [nR]; exact H) | exact H
      have Ny176 := Aside0.mk nR
      clear nR
      have H' := Aside0.mk H
      clear H
      try go_wp2
      refine k3_ (Kd.R_drew ae.out) (blk_drew ab.out) (below_drew1 HB.out) ?_
      clear ae ab HB
      intro ae ab HB
      refine start_ (n := 11) (S := fun w' => True) (ds := []) (M_ 0 11) (by kernel_rfl) rfl rfl trivial (fun hHeld => ?_); refine with_tabW spec_shSorted.tab6 spec_shSorted.bits6 (fun HT_ HW_ => ?_)
      generalize wr.drew = w44 at ae ab HB hHeld ⊢
      refine pu_ 0 16 (M_ 1 10) ?_
      refine pu_ 1 17 (M_ 2 9) ?_
      refine pu_ 2 18 (M_ 3 8) ?_
      refine pn_ 3 19 (M_ 4 7) ?_
      refine pn_ 4 20 (M_ 5 6) ?_
      refine pn_ 5 21 (M_ 6 5) ?_
      refine pn_ 6 22 (M_ 7 4) ?_
      refine pn_ 7 23 (M_ 8 3) ?_
      refine pn_ 8 24 (M_ 9 2) ?_
      refine pn_ 9 25 (M_ 10 1) ?_
      refine pu_ 10 26 (M_ 11 0) ?_
      refine done_ (done_of HT_.out (by kernel_rfl)) ?_
      try go_wp2
      refine k3_ (Kd.R_drew ae.out) (blk_drew ab.out) (below_drew1 HB.out) ?_
      clear ae ab HB
      intro ae ab HB
      have CU : (aw : Int) ≤ ((ap.length : Int) : Int) := of_decide_eq_true (Z8)
      obtain ⟨i046, hi046, _, hsz46, _⟩ := info_parts info55
      have hroom46 : ap.length ≤ cP := (Kd.R_reads' ae.out).2.1
      have hC46 : Kd.C k55 _ gL ap.length ap := (Kd.R_reads' ae.out).2.2
      have hcut46 := cut_to (P := Tryz.prog) 24 55 .i64 Tryz.underlying24 hi046 gL ap.length cP aw (of_decide_eq_true (Z8)) CU hroom46
      have hr46 := Kd.C_take (m := (aw : Int).toNat) hC46 (by omega)
      have zg : dj.length = (aw : Int).toNat := (Z118 hG)
      rw [← hG.out] at hr46
      rw [← zg] at hcut46
      have HR162 := Aside0.mk hr46
      have HC162 := Aside0.mk (show dj.length ≤ cP from by omega)
      clear hr46 hC46 hroom46 hi046 hsz46
      have KY46 := Aside0.mk zg
      clear zg
      have KL46 := Aside0.mk (show (aw : Int).toNat ≤ ap.length from by omega)
      replace CU := eq_true CU
      have yk : (aw : Int) ≤ ((ap.length : Int) : Int) := of_decide_eq_true (Z8)
      obtain ⟨i047, hi047, _, hsz47, _⟩ := info_parts info55
      have hroom47 : ap.length ≤ cP := (Kd.R_reads' ae.out).2.1
      have hC47 : Kd.C k55 _ gL ap.length ap := (Kd.R_reads' ae.out).2.2
      have q047 : (0 : Int) ≤ (aw : Int) := of_decide_eq_true (Z8)
      have hcut47 := cut_from (P := Tryz.prog) 24 55 .i64 Tryz.underlying24 hi047 3 hsz47 gL ap.length cP aw q047 yk
      have hr47 := Kd.C_drop (m := (aw : Int).toNat) (c := cP) hC47 (by omega) hroom47
      obtain ⟨zh, hA47⟩ : ∃ A1, A1 = (if cP = (aw : Int).toNat then gL else (gL : Option Addr).map (·.add ((aw : Int).toNat * 3))) := ⟨_, rfl⟩
      obtain ⟨c47, hc47⟩ : ∃ c1, c1 = cP - (aw : Int).toNat := ⟨_, rfl⟩
      have u2 : b6.length = ap.length - (aw : Int).toNat := (by rw [hJ.out, List.length_drop] <;> omega)
      rw [show (ap).drop (aw : Int).toNat = b6 from hJ.out.symm] at hr47
      replace hr47 : Kd.C k55 _ zh b6.length b6 := (by rw [hA47]; exact hr47)
      rw [← u2, ← hA47, ← hc47] at hcut47
      have HR175 := Aside0.mk hr47
      have HC175 := Aside0.mk (show b6.length ≤ c47 from by rw [u2, hc47]; exact Nat.sub_le_sub_right hroom47 _)
      clear hr47 hC47 hroom47 hi047 hsz47 hc47
      have KY47 := Aside0.mk u2
      have qZ := Aside0.mk hA47
      clear u2 hA47
      have KL47 := Aside0.mk (show (aw : Int).toNat ≤ ap.length from by omega)
      replace yk := eq_true yk
      refine start_ (n := 13) (S := fun w' => w'.cell? ⟨ah, 0, none⟩ = some (.int .i64 ((rd_T55 l0 aa).f0)) ∧ w'.cell? ⟨ah, 1, none⟩ = some (.int .i64 ((rd_T55 l0 aa).f1)) ∧ w'.cell? ⟨ah, 2, none⟩ = some (.int .i64 ((rd_T55 l0 aa).f2))) (ds := []) (M_ 0 13) (by kernel_rfl) rfl rfl ⟨(blk_cell ab.out 0).trans rfl, (blk_cell ab.out 1).trans rfl, (blk_cell ab.out 2).trans rfl⟩ (fun hHeld => ?_); refine with_tabW spec_shSorted.tab8 spec_shSorted.bits8 (fun HT_ HW_ => ?_)
      generalize w44.drew = CV at ae ab HB HR162 HR175 hHeld ⊢
      refine pu_ 1 30 (N_ 13 2) ?_
      refine pu_ 2 31 (N_ 13 6) ?_
      refine pu_ 3 32 (N_ 13 14) ?_
      refine pu_ 8 37 (N_ 13 270) ?_
      refine pu_ 9 38 (N_ 13 782) ?_
      refine pu_ 10 39 (N_ 13 1806) ?_
      refine tk3_ 5 34 (N_ 13 1838) hHeld ?_
      refine join_ (σ := Value × Value × Value) 3 (N_ 13 1919) (fun s_ => [(29, s_.1), (33, s_.2.1), (35, s_.2.2)]) (fun s_ w' => (w'.cell? ⟨ah, 0, none⟩ = some (.int .i64 ((rd_T55 l0 aa).f0)) ∧ w'.cell? ⟨ah, 1, none⟩ = some (.int .i64 ((rd_T55 l0 aa).f1)) ∧ w'.cell? ⟨ah, 2, none⟩ = some (.int .i64 ((rd_T55 l0 aa).f2))) ∧ (Kd.R k55 55 w' w.heap.size (fun k_ => some k_ ≠ (s_.2.2 : Value).ownBlock ∧ some k_ ≠ (.slice gL ap.length cP : Value).ownBlock ∧ k_ ≠ ah) s_.2.1 eZ) ∧ (Kd.R k55 55 w' w.heap.size (fun k_ => some k_ ≠ (s_.2.1 : Value).ownBlock ∧ some k_ ≠ (.slice gL ap.length cP : Value).ownBlock ∧ k_ ≠ ah) s_.2.2 cO) ∧ (Kd.R k55 55 w' w.heap.size (fun k_ => some k_ ≠ (s_.2.1 : Value).ownBlock ∧ some k_ ≠ (s_.2.2 : Value).ownBlock ∧ k_ ≠ ah) (.slice gL ap.length cP) ap) ∧ (w'.heap[ah]? = some (.cells #[.int .i64 ((rd_T55 l0 aa).f0), .int .i64 ((rd_T55 l0 aa).f1), .int .i64 ((rd_T55 l0 aa).f2)] 55 (0, 0))) ∧ (Below w.heap.size w w')) ?_ ?_
      rotate_left
      ·intro hCont
       refine two_ (i := 0) (j := 6) (Ni := some 29) (Nj := some 35) (N_ 13 1839) (N_ 13 1902) rfl rfl rfl rfl (two_of HT_.out (by kernel_rfl)) (by decide) (by decide) (fun K hK => ?_) (fun K hK => ?_)
       ·skip
        refine Kd.R_lit_step k55 _ 55 ?hg (N := 29) ?hd (xs := ([] : List (S55))) (inner := []) (ok := fun _ => True) (okp := fun _ => True) ?hr ?hp (fun _ hk => hk) trivial (Below.refl _ _) (Nat.le_refl _) (by simp) ?_; (case hd => rfl); (case hg => rfl); (case hr => exact Z41); (case hp => exact (Reps.none _ _))
        intro nS z7 ho49 hb hg_ hnew_
        clear hg_ hnew_
        (first | rw [← qm.out] at ho49 | (simp only [Int.reduceToNat] at ho49; rw [← qm.out] at ho49))
        have n0_ := Aside0.mk (Kd.R_elder' (Z3 ae) (Kd.R_base ho49) hb)
        have n1_ := Aside0.mk (Kd.R_lower (Kd.R_newB (Kd.R_new' ho49 (Yd_ ae)) (g := ah) (o := .cells #[.int .i64 ((rd_T55 l0 aa).f0), .int .i64 ((rd_T55 l0 aa).f1), .int .i64 ((rd_T55 l0 aa).f2)] 55 (0, 0)) (Z7 ab)) (below_size (Z12)))
        have n2_ := Aside0.mk (Ye_ ab)
        have n3_ := Aside0.mk (Kd.C_below (Z13 HR162) hb)
        have n4_ := Aside0.mk (Kd.C_below (Z13 HR175) hb)
        have n5_ := Aside0.mk (below_step (Z12) hb)
        clear ae
        clear ab
        clear HR162
        clear HR175
        clear HB
        have ae := n0_
        have d2 := n1_
        have ab := n2_
        have HR162 := n3_
        have HR175 := n4_
        have HB := n5_
        clear n0_ n1_ n2_ n3_ n4_ n5_
        clear hb ho49
        refine hK.out _ _ ⟨(blk_cell ab.out 0).trans rfl, (blk_cell ab.out 1).trans rfl, (blk_cell ab.out 2).trans rfl⟩ (fun hHeld => ?_)
        clear hK K
        refine norm_ (a' := ?_) ?_ ?_
        rotate_left
        ·show Act.put _ (some 29) _ = _
         simp only [Act.put, List.setIfInBounds_toArray, List.set_cons_zero, List.set_cons_succ, i64_w, i32_w]
         rfl
        refine two_ (i := 4) (j := 6) (Ni := some 33) (Nj := some 35) (N_ 13 1855) (N_ 13 1903) rfl rfl rfl rfl (two_of HT_.out (by kernel_rfl)) (by decide) (by decide) (fun K hK => ?_) (fun K hK => ?_)
        ·skip
         refine Kd.R_append_rows_step k55 (w0 := w) w.heap.size (by rfl) (.tmp 29) (.tmp 32) 24 55 (.agg #[(.int .i64 0), (.int .i64 0), (.int .i64 0)]) 24 rfl Tryz.underlying24 info55 rfl (by decide) (by omega) nS ib dj _ _ _ (fun k_ => some k_ ≠ (.slice gL ap.length cP : Value).ownBlock ∧ k_ ≠ ah) (fun _ => False) rfl rfl ?aO ?aR (fun _ _ h => h) (fun _ h => h.elim) ?aF ?aB ?aS ?aL ?_
         (case aR => exact Z93)
         (case aB => exact Z12)
         (case aF => exact (fun k_ hk => ⟨Kd.fresh' (Yd_ ae) k_ hk, Kd.freshB (g := ah) (o := .cells #[.int .i64 ((rd_T55 l0 aa).f0), .int .i64 ((rd_T55 l0 aa).f1), .int .i64 ((rd_T55 l0 aa).f2)] 55 (0, 0)) (Z7 ab) k_ hk⟩))
         (case aO => exact (Z65 d2))
         (case aS => exact (below_size (Z12)))
         (case aL => exact Z83 tB)
         intro jV rV ho hb hg hat
         rw [← tC.out] at ho
         have n0_ := Aside0.mk (Kd.R_after (ok := (fun k_ => k_ ≠ ah)) (Z3 ae) hg hat)
         have n1_ := Aside0.mk (blk_grown (g := ah) (o := .cells #[.int .i64 ((rd_T55 l0 aa).f0), .int .i64 ((rd_T55 l0 aa).f1), .int .i64 ((rd_T55 l0 aa).f2)] 55 (0, 0)) (Z7 ab) hg (Kd.R_away d2.out (fun _ hk => hk.2)))
         have n2_ := Aside0.mk (hb)
         have n3_ := Aside0.mk ((show Kd.C k55 rV gL dj.length dj from by rw [hG.out]; exact Kd.C_take (m := (aw : Int).toNat) ((Kd.R_reads' (Kd.R_after (ok := (fun k_ => k_ ≠ ah)) (Z3 ae) hg hat)).2.2) KL46.out))
         have n4_ := Aside0.mk ((show Kd.C k55 rV zh b6.length b6 from by rw [hJ.out, qZ.out]; exact Kd.C_drop (m := (aw : Int).toNat) (c := cP) ((Kd.R_reads' (Kd.R_after (ok := (fun k_ => k_ ≠ ah)) (Z3 ae) hg hat)).2.2) KL47.out ((Kd.R_reads' (Kd.R_after (ok := (fun k_ => k_ ≠ ah)) (Z3 ae) hg hat)).2.1)))
         have n5_ := Aside0.mk (ho)
         clear ae
         clear ab
         clear HB
         clear HR162
         clear HR175
         clear d2
         have ae := n0_
         have ab := n1_
         have HB := n2_
         have HR162 := n3_
         have HR175 := n4_
         have ek := n5_
         clear n0_ n1_ n2_ n3_ n4_ n5_
         clear ho hb hg hat
         refine hK.out _ _ ⟨(blk_cell ab.out 0).trans rfl, (blk_cell ab.out 1).trans rfl, (blk_cell ab.out 2).trans rfl⟩ (fun hHeld => ?_)
         clear hK K
         refine norm_ (a' := ?_) ?_ ?_
         rotate_left
         ·show Act.put _ (some 33) _ = _
          simp only [Act.put, List.setIfInBounds_toArray, List.set_cons_zero, List.set_cons_succ, i64_w, i32_w]
          rfl
         refine one_ (i := 6) (N := some 35) (N_ 13 1919) rfl rfl (one_of HT_.out (by kernel_rfl)) (by decide) (fun K hK => ?_)
         refine Kd.R_lit_step k55 _ 55 ?hg (N := 35) ?hd (xs := ([(⟨((rd_T55 l0 aa).f0), ((rd_T55 l0 aa).f1), ((rd_T55 l0 aa).f2)⟩ : S55)] : List (S55))) (inner := [.int .i64 ((rd_T55 l0 aa).f0), .int .i64 ((rd_T55 l0 aa).f1), .int .i64 ((rd_T55 l0 aa).f2)]) (ok := fun _ => True) (okp := fun _ => True) ?hr ?hp (fun _ hk => hk) trivial (Below.refl _ _) (Nat.le_refl _) (by simp) ?_; (case hd => rfl); (case hg => rfl); (case hr => exact Z41); (case hp => exact (Reps.c3 (show Kd.M k55 _ _ _ (⟨((rd_T55 l0 aa).f0), ((rd_T55 l0 aa).f1), ((rd_T55 l0 aa).f2)⟩ : S55) [.int .i64 ((rd_T55 l0 aa).f0), .int .i64 ((rd_T55 l0 aa).f1), .int .i64 ((rd_T55 l0 aa).f2)] from (k55_mkM _ _ _ (⟨((rd_T55 l0 aa).f0), ((rd_T55 l0 aa).f1), ((rd_T55 l0 aa).f2)⟩ : S55) )) (Reps.none _ _)))
         intro eA w51 ho52 hb hg_ hnew_
         clear hg_ hnew_
         (first | rw [← lq.out] at ho52 | (simp only [Int.reduceToNat] at ho52; rw [← lq.out] at ho52))
         have n0_ := Aside0.mk (Kd.R_elder' (Z3 ae) (Kd.R_base ho52) hb)
         have n1_ := Aside0.mk (Kd.R_elder' (Z3 ek) (Kd.R_base ho52) hb)
         have n2_ := Aside0.mk (Kd.R_lower (Kd.R_newB (Kd.R_new' (Kd.R_new' ho52 (Yd_ ae)) (Yd_ ek)) (g := ah) (o := .cells #[.int .i64 ((rd_T55 l0 aa).f0), .int .i64 ((rd_T55 l0 aa).f1), .int .i64 ((rd_T55 l0 aa).f2)] 55 (0, 0)) (Z7 ab)) (below_size (Z12)))
         have n3_ := Aside0.mk (Ye_ ab)
         have n4_ := Aside0.mk (Kd.C_below (Z13 HR162) hb)
         have n5_ := Aside0.mk (Kd.C_below (Z13 HR175) hb)
         have n6_ := Aside0.mk (below_step (Z12) hb)
         clear ae
         clear ek
         clear ab
         clear HR162
         clear HR175
         clear HB
         have ae := n0_
         have ek := n1_
         have bW := n2_
         have ab := n3_
         have HR162 := n4_
         have HR175 := n5_
         have HB := n6_
         clear n0_ n1_ n2_ n3_ n4_ n5_ n6_
         clear hb ho52
         refine hK.out _ _ ⟨(blk_cell ab.out 0).trans rfl, (blk_cell ab.out 1).trans rfl, (blk_cell ab.out 2).trans rfl⟩ (fun hHeld => ?_)
         clear hK K
         refine norm_ (a' := ?_) ?_ ?_
         rotate_left
         ·show Act.put _ (some 35) _ = _
          simp only [Act.put, List.setIfInBounds_toArray, List.set_cons_zero, List.set_cons_succ, i64_w, i32_w]
          rfl
         exact norm_ (Z55) (hCont (nS, jV, eA) _ ⟨hHeld, (Z43 ek), (Z119 bW), (Z114), (Z7 ab), (Z12)⟩)
        skip
        refine Kd.R_lit_step k55 _ 55 ?hg (N := 35) ?hd (xs := ([(⟨((rd_T55 l0 aa).f0), ((rd_T55 l0 aa).f1), ((rd_T55 l0 aa).f2)⟩ : S55)] : List (S55))) (inner := [.int .i64 ((rd_T55 l0 aa).f0), .int .i64 ((rd_T55 l0 aa).f1), .int .i64 ((rd_T55 l0 aa).f2)]) (ok := fun _ => True) (okp := fun _ => True) ?hr ?hp (fun _ hk => hk) trivial (Below.refl _ _) (Nat.le_refl _) (by simp) ?_; (case hd => rfl); (case hg => rfl); (case hr => exact Z41); (case hp => exact (Reps.c3 (show Kd.M k55 _ _ _ (⟨((rd_T55 l0 aa).f0), ((rd_T55 l0 aa).f1), ((rd_T55 l0 aa).f2)⟩ : S55) [.int .i64 ((rd_T55 l0 aa).f0), .int .i64 ((rd_T55 l0 aa).f1), .int .i64 ((rd_T55 l0 aa).f2)] from (k55_mkM _ _ _ (⟨((rd_T55 l0 aa).f0), ((rd_T55 l0 aa).f1), ((rd_T55 l0 aa).f2)⟩ : S55) )) (Reps.none _ _)))
        intro eA rV ho51 hb hg_ hnew_
        clear hg_ hnew_
        (first | rw [← lq.out] at ho51 | (simp only [Int.reduceToNat] at ho51; rw [← lq.out] at ho51))
        have n0_ := Aside0.mk (Kd.R_elder' (Z3 ae) (Kd.R_base ho51) hb)
        have n1_ := Aside0.mk (Kd.R_elder' (Z3 d2) (Kd.R_base ho51) hb)
        have n2_ := Aside0.mk (Kd.R_lower (Kd.R_newB (Kd.R_new' (Kd.R_new' ho51 (Yd_ ae)) (Yd_ d2)) (g := ah) (o := .cells #[.int .i64 ((rd_T55 l0 aa).f0), .int .i64 ((rd_T55 l0 aa).f1), .int .i64 ((rd_T55 l0 aa).f2)] 55 (0, 0)) (Z7 ab)) (below_size (Z12)))
        have n3_ := Aside0.mk (Ye_ ab)
        have n4_ := Aside0.mk (Kd.C_below (Z13 HR162) hb)
        have n5_ := Aside0.mk (Kd.C_below (Z13 HR175) hb)
        have n6_ := Aside0.mk (below_step (Z12) hb)
        clear ae
        clear d2
        clear ab
        clear HR162
        clear HR175
        clear HB
        have ae := n0_
        have d2 := n1_
        have bW := n2_
        have ab := n3_
        have HR162 := n4_
        have HR175 := n5_
        have HB := n6_
        clear n0_ n1_ n2_ n3_ n4_ n5_ n6_
        clear hb ho51
        refine hK.out _ _ ⟨(blk_cell ab.out 0).trans rfl, (blk_cell ab.out 1).trans rfl, (blk_cell ab.out 2).trans rfl⟩ (fun hHeld => ?_)
        clear hK K
        refine norm_ (a' := ?_) ?_ ?_
        rotate_left
        ·show Act.put _ (some 35) _ = _
         simp only [Act.put, List.setIfInBounds_toArray, List.set_cons_zero, List.set_cons_succ, i64_w, i32_w]
         rfl
        refine one_ (i := 4) (N := some 33) (N_ 13 1919) rfl rfl (one_of HT_.out (by kernel_rfl)) (by decide) (fun K hK => ?_)
        refine Kd.R_append_rows_step k55 (w0 := w) w.heap.size (by rfl) (.tmp 29) (.tmp 32) 24 55 (.agg #[(.int .i64 0), (.int .i64 0), (.int .i64 0)]) 24 rfl Tryz.underlying24 info55 rfl (by decide) (by omega) nS ib dj _ _ _ (fun k_ => some k_ ≠ (.slice gL ap.length cP : Value).ownBlock ∧ some k_ ≠ (eA : Value).ownBlock ∧ k_ ≠ ah) (fun _ => False) rfl rfl ?aO ?aR (fun _ _ h => h) (fun _ h => h.elim) ?aF ?aB ?aS ?aL ?_
        (case aR => exact Z93)
        (case aB => exact Z12)
        (case aF => exact (fun k_ hk => ⟨Kd.fresh' (Yd_ ae) k_ hk, Kd.fresh' (Yd_ bW) k_ hk, Kd.freshB (g := ah) (o := .cells #[.int .i64 ((rd_T55 l0 aa).f0), .int .i64 ((rd_T55 l0 aa).f1), .int .i64 ((rd_T55 l0 aa).f2)] 55 (0, 0)) (Z7 ab) k_ hk⟩))
        (case aO => exact (Z120 d2))
        (case aS => exact (below_size (Z12)))
        (case aL => exact Z83 tB)
        intro jV uw ho hb hg hat
        rw [← tC.out] at ho
        have n0_ := Aside0.mk (Kd.R_after (ok := (fun k_ => some k_ ≠ (eA : Value).ownBlock ∧ k_ ≠ ah)) (Z48) hg hat)
        have n1_ := Aside0.mk (blk_grown (g := ah) (o := .cells #[.int .i64 ((rd_T55 l0 aa).f0), .int .i64 ((rd_T55 l0 aa).f1), .int .i64 ((rd_T55 l0 aa).f2)] 55 (0, 0)) (Z7 ab) hg (Kd.R_away d2.out (fun _ hk => hk.1.2)))
        have n2_ := Aside0.mk (Kd.R_after (ok := (fun k_ => some k_ ≠ (.slice gL ap.length cP : Value).ownBlock ∧ k_ ≠ ah)) (Z121 bW) hg hat)
        have n3_ := Aside0.mk (hb)
        have n4_ := Aside0.mk ((show Kd.C k55 uw gL dj.length dj from by rw [hG.out]; exact Kd.C_take (m := (aw : Int).toNat) ((Kd.R_reads' (Kd.R_after (ok := (fun k_ => some k_ ≠ (eA : Value).ownBlock ∧ k_ ≠ ah)) (Z48) hg hat)).2.2) KL46.out))
        have n5_ := Aside0.mk ((show Kd.C k55 uw zh b6.length b6 from by rw [hJ.out, qZ.out]; exact Kd.C_drop (m := (aw : Int).toNat) (c := cP) ((Kd.R_reads' (Kd.R_after (ok := (fun k_ => some k_ ≠ (eA : Value).ownBlock ∧ k_ ≠ ah)) (Z48) hg hat)).2.2) KL47.out ((Kd.R_reads' (Kd.R_after (ok := (fun k_ => some k_ ≠ (eA : Value).ownBlock ∧ k_ ≠ ah)) (Z48) hg hat)).2.1)))
        have n6_ := Aside0.mk (ho)
        clear ae
        clear ab
        clear bW
        clear HB
        clear HR162
        clear HR175
        clear d2
        have ae := n0_
        have ab := n1_
        have bW := n2_
        have HB := n3_
        have HR162 := n4_
        have HR175 := n5_
        have ek := n6_
        clear n0_ n1_ n2_ n3_ n4_ n5_ n6_
        clear ho hb hg hat
        refine hK.out _ _ ⟨(blk_cell ab.out 0).trans rfl, (blk_cell ab.out 1).trans rfl, (blk_cell ab.out 2).trans rfl⟩ (fun hHeld => ?_)
        clear hK K
        refine norm_ (a' := ?_) ?_ ?_
        rotate_left
        ·show Act.put _ (some 33) _ = _
         simp only [Act.put, List.setIfInBounds_toArray, List.set_cons_zero, List.set_cons_succ, i64_w, i32_w]
         rfl
        exact norm_ (Z55) (hCont (nS, jV, eA) _ ⟨hHeld, (Z58 ek), (Z43 bW), (Z43 ae), (Z7 ab), (Z12)⟩)
       skip
       refine Kd.R_lit_step k55 _ 55 ?hg (N := 35) ?hd (xs := ([(⟨((rd_T55 l0 aa).f0), ((rd_T55 l0 aa).f1), ((rd_T55 l0 aa).f2)⟩ : S55)] : List (S55))) (inner := [.int .i64 ((rd_T55 l0 aa).f0), .int .i64 ((rd_T55 l0 aa).f1), .int .i64 ((rd_T55 l0 aa).f2)]) (ok := fun _ => True) (okp := fun _ => True) ?hr ?hp (fun _ hk => hk) trivial (Below.refl _ _) (Nat.le_refl _) (by simp) ?_; (case hd => rfl); (case hg => rfl); (case hr => exact Z41); (case hp => exact (Reps.c3 (show Kd.M k55 _ _ _ (⟨((rd_T55 l0 aa).f0), ((rd_T55 l0 aa).f1), ((rd_T55 l0 aa).f2)⟩ : S55) [.int .i64 ((rd_T55 l0 aa).f0), .int .i64 ((rd_T55 l0 aa).f1), .int .i64 ((rd_T55 l0 aa).f2)] from (k55_mkM _ _ _ (⟨((rd_T55 l0 aa).f0), ((rd_T55 l0 aa).f1), ((rd_T55 l0 aa).f2)⟩ : S55) )) (Reps.none _ _)))
       intro eA z7 ho49 hb hg_ hnew_
       clear hg_ hnew_
       (first | rw [← lq.out] at ho49 | (simp only [Int.reduceToNat] at ho49; rw [← lq.out] at ho49))
       have n0_ := Aside0.mk (Kd.R_elder' (Z3 ae) (Kd.R_base ho49) hb)
       have n1_ := Aside0.mk (Kd.R_lower (Kd.R_newB (Kd.R_new' ho49 (Yd_ ae)) (g := ah) (o := .cells #[.int .i64 ((rd_T55 l0 aa).f0), .int .i64 ((rd_T55 l0 aa).f1), .int .i64 ((rd_T55 l0 aa).f2)] 55 (0, 0)) (Z7 ab)) (below_size (Z12)))
       have n2_ := Aside0.mk (Ye_ ab)
       have n3_ := Aside0.mk (Kd.C_below (Z13 HR162) hb)
       have n4_ := Aside0.mk (Kd.C_below (Z13 HR175) hb)
       have n5_ := Aside0.mk (below_step (Z12) hb)
       clear ae
       clear ab
       clear HR162
       clear HR175
       clear HB
       have ae := n0_
       have bW := n1_
       have ab := n2_
       have HR162 := n3_
       have HR175 := n4_
       have HB := n5_
       clear n0_ n1_ n2_ n3_ n4_ n5_
       clear hb ho49
       refine hK.out _ _ ⟨(blk_cell ab.out 0).trans rfl, (blk_cell ab.out 1).trans rfl, (blk_cell ab.out 2).trans rfl⟩ (fun hHeld => ?_)
       clear hK K
       refine norm_ (a' := ?_) ?_ ?_
       rotate_left
       ·show Act.put _ (some 35) _ = _
        simp only [Act.put, List.setIfInBounds_toArray, List.set_cons_zero, List.set_cons_succ, i64_w, i32_w]
        rfl
       refine one_ (i := 0) (N := some 29) (N_ 13 1903) rfl rfl (one_of HT_.out (by kernel_rfl)) (by decide) (fun K hK => ?_)
       refine Kd.R_lit_step k55 _ 55 ?hg (N := 29) ?hd (xs := ([] : List (S55))) (inner := []) (ok := fun _ => True) (okp := fun _ => True) ?hr ?hp (fun _ hk => hk) trivial (Below.refl _ _) (Nat.le_refl _) (by simp) ?_; (case hd => rfl); (case hg => rfl); (case hr => exact Z41); (case hp => exact (Reps.none _ _))
       intro nS rV ho51 hb hg_ hnew_
       clear hg_ hnew_
       (first | rw [← qm.out] at ho51 | (simp only [Int.reduceToNat] at ho51; rw [← qm.out] at ho51))
       have n0_ := Aside0.mk (Kd.R_elder' (Z3 ae) (Kd.R_base ho51) hb)
       have n1_ := Aside0.mk (Kd.R_elder' (Z3 bW) (Kd.R_base ho51) hb)
       have n2_ := Aside0.mk (Kd.R_lower (Kd.R_newB (Kd.R_new' (Kd.R_new' ho51 (Yd_ ae)) (Yd_ bW)) (g := ah) (o := .cells #[.int .i64 ((rd_T55 l0 aa).f0), .int .i64 ((rd_T55 l0 aa).f1), .int .i64 ((rd_T55 l0 aa).f2)] 55 (0, 0)) (Z7 ab)) (below_size (Z12)))
       have n3_ := Aside0.mk (Ye_ ab)
       have n4_ := Aside0.mk (Kd.C_below (Z13 HR162) hb)
       have n5_ := Aside0.mk (Kd.C_below (Z13 HR175) hb)
       have n6_ := Aside0.mk (below_step (Z12) hb)
       clear ae
       clear bW
       clear ab
       clear HR162
       clear HR175
       clear HB
       have ae := n0_
       have bW := n1_
       have d2 := n2_
       have ab := n3_
       have HR162 := n4_
       have HR175 := n5_
       have HB := n6_
       clear n0_ n1_ n2_ n3_ n4_ n5_ n6_
       clear hb ho51
       refine hK.out _ _ ⟨(blk_cell ab.out 0).trans rfl, (blk_cell ab.out 1).trans rfl, (blk_cell ab.out 2).trans rfl⟩ (fun hHeld => ?_)
       clear hK K
       refine norm_ (a' := ?_) ?_ ?_
       rotate_left
       ·show Act.put _ (some 29) _ = _
        simp only [Act.put, List.setIfInBounds_toArray, List.set_cons_zero, List.set_cons_succ, i64_w, i32_w]
        rfl
       refine one_ (i := 4) (N := some 33) (N_ 13 1919) rfl rfl (one_of HT_.out (by kernel_rfl)) (by decide) (fun K hK => ?_)
       refine Kd.R_append_rows_step k55 (w0 := w) w.heap.size (by rfl) (.tmp 29) (.tmp 32) 24 55 (.agg #[(.int .i64 0), (.int .i64 0), (.int .i64 0)]) 24 rfl Tryz.underlying24 info55 rfl (by decide) (by omega) nS ib dj _ _ _ (fun k_ => some k_ ≠ (.slice gL ap.length cP : Value).ownBlock ∧ some k_ ≠ (eA : Value).ownBlock ∧ k_ ≠ ah) (fun _ => False) rfl rfl ?aO ?aR (fun _ _ h => h) (fun _ h => h.elim) ?aF ?aB ?aS ?aL ?_
       (case aR => exact Z93)
       (case aB => exact Z12)
       (case aF => exact (fun k_ hk => ⟨Kd.fresh' (Yd_ ae) k_ hk, Kd.fresh' (Yd_ bW) k_ hk, Kd.freshB (g := ah) (o := .cells #[.int .i64 ((rd_T55 l0 aa).f0), .int .i64 ((rd_T55 l0 aa).f1), .int .i64 ((rd_T55 l0 aa).f2)] 55 (0, 0)) (Z7 ab) k_ hk⟩))
       (case aO => exact (Z122 d2))
       (case aS => exact (below_size (Z12)))
       (case aL => exact Z83 tB)
       intro jV uw ho hb hg hat
       rw [← tC.out] at ho
       have n0_ := Aside0.mk (Kd.R_after (ok := (fun k_ => some k_ ≠ (eA : Value).ownBlock ∧ k_ ≠ ah)) (Z49) hg hat)
       have n1_ := Aside0.mk (blk_grown (g := ah) (o := .cells #[.int .i64 ((rd_T55 l0 aa).f0), .int .i64 ((rd_T55 l0 aa).f1), .int .i64 ((rd_T55 l0 aa).f2)] 55 (0, 0)) (Z7 ab) hg (Kd.R_away d2.out (fun _ hk => hk.2)))
       have n2_ := Aside0.mk (Kd.R_after (ok := (fun k_ => some k_ ≠ (.slice gL ap.length cP : Value).ownBlock ∧ k_ ≠ ah)) (Z123 bW) hg hat)
       have n3_ := Aside0.mk (hb)
       have n4_ := Aside0.mk ((show Kd.C k55 uw gL dj.length dj from by rw [hG.out]; exact Kd.C_take (m := (aw : Int).toNat) ((Kd.R_reads' (Kd.R_after (ok := (fun k_ => some k_ ≠ (eA : Value).ownBlock ∧ k_ ≠ ah)) (Z49) hg hat)).2.2) KL46.out))
       have n5_ := Aside0.mk ((show Kd.C k55 uw zh b6.length b6 from by rw [hJ.out, qZ.out]; exact Kd.C_drop (m := (aw : Int).toNat) (c := cP) ((Kd.R_reads' (Kd.R_after (ok := (fun k_ => some k_ ≠ (eA : Value).ownBlock ∧ k_ ≠ ah)) (Z49) hg hat)).2.2) KL47.out ((Kd.R_reads' (Kd.R_after (ok := (fun k_ => some k_ ≠ (eA : Value).ownBlock ∧ k_ ≠ ah)) (Z49) hg hat)).2.1)))
       have n6_ := Aside0.mk (ho)
       clear ae
       clear ab
       clear bW
       clear HB
       clear HR162
       clear HR175
       clear d2
       have ae := n0_
       have ab := n1_
       have bW := n2_
       have HB := n3_
       have HR162 := n4_
       have HR175 := n5_
       have ek := n6_
       clear n0_ n1_ n2_ n3_ n4_ n5_ n6_
       clear ho hb hg hat
       refine hK.out _ _ ⟨(blk_cell ab.out 0).trans rfl, (blk_cell ab.out 1).trans rfl, (blk_cell ab.out 2).trans rfl⟩ (fun hHeld => ?_)
       clear hK K
       refine norm_ (a' := ?_) ?_ ?_
       rotate_left
       ·show Act.put _ (some 33) _ = _
        simp only [Act.put, List.setIfInBounds_toArray, List.set_cons_zero, List.set_cons_succ, i64_w, i32_w]
        rfl
       exact norm_ (Z55) (hCont (nS, jV, eA) _ ⟨hHeld, (Z58 ek), (Z43 bW), (Z43 ae), (Z7 ab), (Z12)⟩)
      rintro ⟨nS, jV, eA⟩ rW ⟨hS_, h0_, h1_, h2_, h3_, h4_⟩
      have n0_ : Aside0 (Kd.R k55 55 rW w.heap.size (fun k_ => some k_ ≠ (eA : Value).ownBlock ∧ some k_ ≠ (.slice gL ap.length cP : Value).ownBlock ∧ k_ ≠ ah) jV eZ) := ⟨h0_⟩
      have n1_ : Aside0 (Kd.R k55 55 rW w.heap.size (fun k_ => some k_ ≠ (jV : Value).ownBlock ∧ some k_ ≠ (.slice gL ap.length cP : Value).ownBlock ∧ k_ ≠ ah) eA cO) := ⟨h1_⟩
      have n2_ : Aside0 (Kd.R k55 55 rW w.heap.size (fun k_ => some k_ ≠ (jV : Value).ownBlock ∧ some k_ ≠ (eA : Value).ownBlock ∧ k_ ≠ ah) (.slice gL ap.length cP) ap) := ⟨h2_⟩
      have n3_ : Aside0 (rW.heap[ah]? = some (.cells #[.int .i64 ((rd_T55 l0 aa).f0), .int .i64 ((rd_T55 l0 aa).f1), .int .i64 ((rd_T55 l0 aa).f2)] 55 (0, 0))) := ⟨h3_⟩
      have n4_ : Aside0 (Below w.heap.size w rW) := ⟨h4_⟩
      clear ae
      clear ab
      clear HB
      clear h0_ h1_ h2_ h3_ h4_
      have ek := n0_
      have bW := n1_
      have ae := n2_
      have ab := n3_
      have HB := n4_
      clear n0_ n1_ n2_ n3_ n4_
      have hHeld : rW.cell? ⟨ah, 0, none⟩ = some (.int .i64 ((rd_T55 l0 aa).f0)) ∧ rW.cell? ⟨ah, 1, none⟩ = some (.int .i64 ((rd_T55 l0 aa).f1)) ∧ rW.cell? ⟨ah, 2, none⟩ = some (.int .i64 ((rd_T55 l0 aa).f2)) := hS_
      have n_ := Aside0.mk (show Kd.C k55 _ gL dj.length dj from by rw [hG.out]; exact Kd.C_take (m := (aw : Int).toNat) ((Kd.R_reads' ae.out).2.2) KL46.out)
      (try clear HR162)
      have HR162 := n_
      clear n_
      have n_ := Aside0.mk (show Kd.C k55 _ zh b6.length b6 from by rw [hJ.out, qZ.out]; exact Kd.C_drop (m := (aw : Int).toNat) (c := cP) ((Kd.R_reads' ae.out).2.2) KL47.out ((Kd.R_reads' ae.out).2.1))
      (try clear HR175)
      have HR175 := n_
      clear n_
      obtain ⟨jm, jn, uS⟩ := Kd.R_slice bW.out
      (first | subst uS | (injection uS with f1_ f2_ f3_; have f4_ := f1_.symm; have f5_ := f3_.symm; clear f1_ f2_ f3_; subst f4_; subst f5_))
      refine norm_ (a' := ?_) ?_ ?_
      rotate_left
      ·simp only [putAll, Act.put, List.setIfInBounds_toArray, List.set_cons_zero, List.set_cons_succ]
       rfl
      refine one_ (i := 7) (N := some 36) (M_ 11 2) rfl rfl (one_of HT_.out (by kernel_rfl)) (by decide) (fun K hK => ?_)
      refine Kd.R_append_rows_step k55 (w0 := w) w.heap.size (by rfl) (.tmp 33) (.tmp 35) 24 55 (.agg #[(.int .i64 0), (.int .i64 0), (.int .i64 0)]) 24 rfl Tryz.underlying24 info55 rfl (by decide) (by omega) jV eZ cO _ _ _ (fun k_ => some k_ ≠ (.slice gL ap.length cP : Value).ownBlock ∧ some k_ ≠ (.slice jm cO.length jn : Value).ownBlock ∧ k_ ≠ ah) (fun _ => False) rfl rfl ?aO ?aR (fun _ _ h => h) (fun _ h => h.elim) ?aF ?aB ?aS ?aL ?_
      (case aR => exact Z1 bW)
      (case aB => exact Z12)
      (case aF => exact (fun k_ hk => ⟨Kd.fresh' (Yd_ ae) k_ hk, Kd.fresh' (Yd_ bW) k_ hk, Kd.freshB (g := ah) (o := .cells #[.int .i64 ((rd_T55 l0 aa).f0), .int .i64 ((rd_T55 l0 aa).f1), .int .i64 ((rd_T55 l0 aa).f2)] 55 (0, 0)) (Z7 ab) k_ hk⟩))
      (case aO => exact (Z58 ek))
      (case aS => exact (below_size (Z12)))
      (case aL => exact Z83 LMc40)
      intro v170 CW ho hb hg hat
      rw [← Ny169.out] at ho
      have n0_ := Aside0.mk (Kd.R_after (ok := (fun k_ => some k_ ≠ (.slice jm cO.length jn : Value).ownBlock ∧ k_ ≠ ah)) (Z44 ae) hg hat)
      have n1_ := Aside0.mk (blk_grown (g := ah) (o := .cells #[.int .i64 ((rd_T55 l0 aa).f0), .int .i64 ((rd_T55 l0 aa).f1), .int .i64 ((rd_T55 l0 aa).f2)] 55 (0, 0)) (Z7 ab) hg (Kd.R_away ek.out (fun _ hk => hk.2.2)))
      have n2_ := Aside0.mk (Kd.R_after (ok := (fun k_ => some k_ ≠ (.slice gL ap.length cP : Value).ownBlock ∧ k_ ≠ ah)) (Z44 bW) hg hat)
      have n3_ := Aside0.mk (hb)
      have n4_ := Aside0.mk ((show Kd.C k55 CW gL dj.length dj from by rw [hG.out]; exact Kd.C_take (m := (aw : Int).toNat) ((Kd.R_reads' (Kd.R_after (ok := (fun k_ => some k_ ≠ (.slice jm cO.length jn : Value).ownBlock ∧ k_ ≠ ah)) (Z44 ae) hg hat)).2.2) KL46.out))
      have n5_ := Aside0.mk ((show Kd.C k55 CW zh b6.length b6 from by rw [hJ.out, qZ.out]; exact Kd.C_drop (m := (aw : Int).toNat) (c := cP) ((Kd.R_reads' (Kd.R_after (ok := (fun k_ => some k_ ≠ (.slice jm cO.length jn : Value).ownBlock ∧ k_ ≠ ah)) (Z44 ae) hg hat)).2.2) KL47.out ((Kd.R_reads' (Kd.R_after (ok := (fun k_ => some k_ ≠ (.slice jm cO.length jn : Value).ownBlock ∧ k_ ≠ ah)) (Z44 ae) hg hat)).2.1)))
      have n6_ := Aside0.mk (ho)
      clear ae
      clear ab
      clear bW
      clear HB
      clear HR162
      clear HR175
      clear ek
      have ae := n0_
      have ab := n1_
      have bW := n2_
      have HB := n3_
      have HR162 := n4_
      have HR175 := n5_
      have tE := n6_
      clear n0_ n1_ n2_ n3_ n4_ n5_ n6_
      clear ho hb hg hat
      refine hK.out _ _ ⟨(blk_cell ab.out 0).trans rfl, (blk_cell ab.out 1).trans rfl, (blk_cell ab.out 2).trans rfl⟩ (fun hHeld => ?_)
      clear hK K
      refine norm_ (a' := ?_) ?_ ?_
      rotate_left
      ·show Act.put _ (some 36) _ = _
       simp only [Act.put, List.setIfInBounds_toArray, List.set_cons_zero, List.set_cons_succ, i64_w, i32_w]
       rfl
      refine one_ (i := 11) (N := some 40) (M_ 12 1) rfl rfl (one_of HT_.out (by kernel_rfl)) (by decide) (fun K hK => ?_)
      refine Kd.R_append_rows_step k55 (w0 := w) w.heap.size (by rfl) (.tmp 36) (.tmp 39) 24 55 (.agg #[(.int .i64 0), (.int .i64 0), (.int .i64 0)]) 24 rfl Tryz.underlying24 info55 rfl (by decide) (by omega) v170 dT b6 _ _ _ (fun k_ => some k_ ≠ (.slice gL ap.length cP : Value).ownBlock ∧ some k_ ≠ (.slice jm cO.length jn : Value).ownBlock ∧ k_ ≠ ah) (fun _ => False) rfl rfl ?aO ?aR (fun _ _ h => h) (fun _ h => h.elim) ?aF ?aB ?aS ?aL ?_
      (case aR => repeat (first | exact (Z13 HR175) | (with_reducible refine Kd.C_alloc ?_ _) | (with_reducible refine Kd.C_drewN ?_ _) | (with_reducible refine Kd.C_drew ?_)))
      (case aB => exact Z12)
      (case aF => exact (fun k_ hk => ⟨Kd.fresh' (Yd_ ae) k_ hk, Kd.fresh' (Yd_ bW) k_ hk, Kd.freshB (g := ah) (o := .cells #[.int .i64 ((rd_T55 l0 aa).f0), .int .i64 ((rd_T55 l0 aa).f1), .int .i64 ((rd_T55 l0 aa).f2)] 55 (0, 0)) (Z7 ab) k_ hk⟩))
      (case aO => exact (Z3 tE))
      (case aS => exact (below_size (Z12)))
      (case aL => exact Z83 tD)
      intro v177 Cq ho hb hg hat
      rw [← Ny176.out] at ho
      have n0_ := Aside0.mk (Kd.R_after (ok := (fun k_ => some k_ ≠ (.slice jm cO.length jn : Value).ownBlock ∧ k_ ≠ ah)) (Z3 ae) hg hat)
      have n1_ := Aside0.mk (blk_grown (g := ah) (o := .cells #[.int .i64 ((rd_T55 l0 aa).f0), .int .i64 ((rd_T55 l0 aa).f1), .int .i64 ((rd_T55 l0 aa).f2)] 55 (0, 0)) (Z7 ab) hg (Kd.R_away tE.out (fun _ hk => hk.2.2)))
      have n2_ := Aside0.mk (Kd.R_after (ok := (fun k_ => some k_ ≠ (.slice gL ap.length cP : Value).ownBlock ∧ k_ ≠ ah)) (Z3 bW) hg hat)
      have n3_ := Aside0.mk (hb)
      have n4_ := Aside0.mk ((show Kd.C k55 Cq gL dj.length dj from by rw [hG.out]; exact Kd.C_take (m := (aw : Int).toNat) ((Kd.R_reads' (Kd.R_after (ok := (fun k_ => some k_ ≠ (.slice jm cO.length jn : Value).ownBlock ∧ k_ ≠ ah)) (Z3 ae) hg hat)).2.2) KL46.out))
      have n5_ := Aside0.mk ((show Kd.C k55 Cq zh b6.length b6 from by rw [hJ.out, qZ.out]; exact Kd.C_drop (m := (aw : Int).toNat) (c := cP) ((Kd.R_reads' (Kd.R_after (ok := (fun k_ => some k_ ≠ (.slice jm cO.length jn : Value).ownBlock ∧ k_ ≠ ah)) (Z3 ae) hg hat)).2.2) KL47.out ((Kd.R_reads' (Kd.R_after (ok := (fun k_ => some k_ ≠ (.slice jm cO.length jn : Value).ownBlock ∧ k_ ≠ ah)) (Z3 ae) hg hat)).2.1)))
      have n6_ := Aside0.mk (ho)
      clear ae
      clear ab
      clear bW
      clear HB
      clear HR162
      clear HR175
      clear tE
      have ae := n0_
      have ab := n1_
      have bW := n2_
      have HB := n3_
      have HR162 := n4_
      have HR175 := n5_
      have HO178 := n6_
      clear n0_ n1_ n2_ n3_ n4_ n5_ n6_
      clear ho hb hg hat
      refine hK.out _ _ ⟨(blk_cell ab.out 0).trans rfl, (blk_cell ab.out 1).trans rfl, (blk_cell ab.out 2).trans rfl⟩ (fun hHeld => ?_)
      clear hK K
      refine norm_ (a' := ?_) ?_ ?_
      rotate_left
      ·show Act.put _ (some 40) _ = _
       simp only [Act.put, List.setIfInBounds_toArray, List.set_cons_zero, List.set_cons_succ, i64_w, i32_w]
       rfl
      refine pu_ 12 4 (M_ 13 0) ?_
      refine done_ (done_of HT_.out (by kernel_rfl)) ?_
      try go_wp2
      go_roundg k2
      case measure => have := HK1.out; have := HK2.out; omega
      case rel => exact ⟨(BR), (wrap64 (aa + 1)), (Z11), H', ⟨Z50⟩, ⟨Z25 HO178⟩, ⟨Z12⟩⟩
   rw [if_neg c2] at H
   have eu : decide (aa < (l0.length : Int)) = false := decide_eq_false c2
   clear c2
   obtain ⟨zd, zV, H⟩ := bd_ H
   (try dsimp only at H)
   by_cases c58 : zd = true
   ·subst c58
    rw [if_pos rfl] at H
    simp only [Option.some.injEq, Prod.mk.injEq] at H
    obtain ⟨rfl, rfl⟩ := H
    obtain ⟨Ao59, co59, eo59⟩ := Kd.R_slice ae.out
    subst eo59
    go_wp2_with ((with_reducible refine gate_callee (f := 32) rfl ?_); refine gl_ 43 Tryz.func32 #[.slice Ao59 ap.length co59] ?_; (with_reducible refine (spec_shGood.calls k1 _ _ ap true _ ?_ ?_ zV.out).mono ?_); exact (Z1 ae); exact (Kd.R_reads' ae.out).2.1; rintro e zW ⟨rfl, hb⟩; refine ⟨_, rfl, ?_⟩; refine k2_ (Ya_ ae) (below_step (Z2) hb) ?_; clear ae HB; intro ae HB; (try clear hb))
    go_ret2
    exact ⟨_, Z9, Z3 ae, Z2⟩
   replace c58 := Bool.eq_false_iff.mpr c58
   subst c58
   rw [if_neg (show ¬ (false = true) by decide)] at H
   simp only [Option.some.injEq, Prod.mk.injEq] at H
   obtain ⟨rfl, rfl⟩ := H
   obtain ⟨sY, sZ, pk⟩ := Kd.R_slice ae.out
   subst pk
   go_wp2_with ((with_reducible refine gate_callee (f := 32) rfl ?_); refine gl_ 43 Tryz.func32 #[.slice sY ap.length sZ] ?_; (with_reducible refine (spec_shGood.calls k1 _ _ ap false _ ?_ ?_ zV.out).mono ?_); exact (Z1 ae); exact (Kd.R_reads' ae.out).2.1; rintro e CL ⟨rfl, hb⟩; refine ⟨_, rfl, ?_⟩; refine k2_ (Ya_ ae) (below_step (Z2) hb) ?_; clear ae HB; intro ae HB; (try clear hb))
   go_ret2
   exact ⟨_, Z9, Z15, Z2⟩

end Go.Proofs.YtcpbncljimmkfaaGreatDoor.PFnScans
