import Derived.Test.YtcpliaahkcbinaaGreatDoorPFnStrokesx0
namespace Go.Proofs.YtcpliaahkcbinaaGreatDoor.PFnStrokes
open Go.RowKit Go.Proofs.YtcpliaahkcbinaaGreatDoorW.PrintWords Go.Proofs.YtcpliaahkcbinaaGreatDoorW.PrintLast Go.Proofs.YtcpliaahkcbinaaGreatDoorW.PrintMore
attribute [local go_sem] dS_ dV_ eo_ em_ dw_ dx_ dX_ dU_
set_option linter.unusedVariables false
set_option linter.unusedSimpArgs false
theorem mA_ {p : Prop} (h : p := by repeat' first | (with_reducible first | apply ih0 | apply ih0 | apply ih1 | apply ih1 | apply aw_.mono | apply aw_.mono | exact LeO.refl _ | exact LeO.none _ | refine LeO.ite ?_ ?_ | refine LeO.bind ?_ (fun _ => ?_)) | exact LeO.none _ | refine LeO.ite ?_ ?_ | refine LeO.bind ?_ (fun _ => ?_)) : p := h
mutual
def am_.l0 : Nat → List (S61) → List (S61) → Int → Int → Option ((List (S61)) × Bool)
 | 0, _, _, _, _ => none
 | k + 1, x4, x8, x9, x10 => if x10 < x9 then (if 0 ≤ x10 then (if x10 < (x8.length : Int) then (am_.l1 k x4 (x4.length : Int) x8 x9 x10 ((ab_ x8 x10).f0) ((ab_ x8 x10).f1) ((ab_ x8 x10).f2)) else (none)) else (none)) else ((aw_.f k x4).bind fun IR => (if IR = true then (some (x4, true)) else (some (([] : List (S61)), false))))
def am_.l1 : Nat → List (S61) → Int → List (S61) → Int → Int → Int → Int → Int → Option ((List (S61)) × Bool)
 | 0, _, _, _, _, _, _, _, _ => none
 | k + 1, x4, x7, x8, x9, x10, nq, nr, nt => if x7 > 0 then (if 0 ≤ (wrap64 (x7 - 1)) then (if (wrap64 (x7 - 1)) < (x4.length : Int) then ((cm_.f nq nr nt ((ab_ x4 (wrap64 (x7 - 1))).f0) ((ab_ x4 (wrap64 (x7 - 1))).f1) ((ab_ x4 (wrap64 (x7 - 1))).f2)).bind fun Bj => (if Bj = true then (am_.l1 k x4 (wrap64 (x7 - 1)) x8 x9 x10 nq nr nt) else ((some (([] : List (S61)) : List (S61))).bind fun jw => (if 0 ≤ x7 then (if x7 ≤ (x4.length : Int) then ((some (x4.take (x7 : Int).toNat : List (S61))).bind fun dM => (if jw.length + dM.length < 5864062014805 then ((some (jw ++ dM : List (S61))).bind fun fM => ((some (([(⟨nq, nr, nt⟩ : S61)] : List (S61)) : List (S61))).bind fun dz => (if fM.length + dz.length < 5864062014805 then ((some (fM ++ dz : List (S61))).bind fun d4 => ((some (x4.drop (x7 : Int).toNat : List (S61))).bind fun cG => (if d4.length + cG.length < 5864062014805 then (am_.l0 k (d4 ++ cG) x8 x9 (wrap64 (x10 + 1))) else (none)))) else (none)))) else (none))) else (none)) else (none))))) else (none)) else (none)) else ((some (([] : List (S61)) : List (S61))).bind fun mQ => (if 0 ≤ x7 then (if x7 ≤ (x4.length : Int) then ((some (x4.take (x7 : Int).toNat : List (S61))).bind fun ee => (if mQ.length + ee.length < 5864062014805 then ((some (mQ ++ ee : List (S61))).bind fun gU => ((some (([(⟨nq, nr, nt⟩ : S61)] : List (S61)) : List (S61))).bind fun d2 => (if gU.length + d2.length < 5864062014805 then ((some (gU ++ d2 : List (S61))).bind fun fb => ((some (x4.drop (x7 : Int).toNat : List (S61))).bind fun cT => (if fb.length + cT.length < 5864062014805 then (am_.l0 k (fb ++ cT) x8 x9 (wrap64 (x10 + 1))) else (none)))) else (none)))) else (none))) else (none)) else (none)))
end
def am_.f (k : Nat) (l0 : List (S61)) : Option ((List (S61)) × Bool) := am_.l0 k ([] : List (S61)) l0 (l0.length : Int) 0
theorem am_.mono_l : ∀ k, (∀ y0 y1 y2 y3, LeO (am_.l0 k y0 y1 y2 y3) (am_.l0 (k + 1) y0 y1 y2 y3)) ∧ (∀ y0 y1 y2 y3 y4 y5 y6 y7, LeO (am_.l1 k y0 y1 y2 y3 y4 y5 y6 y7) (am_.l1 (k + 1) y0 y1 y2 y3 y4 y5 y6 y7))
 | 0 => ⟨fun _ _ _ _ r h => by simp [am_.l0] at h, fun _ _ _ _ _ _ _ _ r h => by simp [am_.l1] at h⟩
 | k + 1 => by
  obtain ⟨ih0, ih1⟩ := am_.mono_l k
  refine ⟨?_, ?_⟩
  ·intro y0 y1 y2 y3
   unfold am_.l0
   exact mA_
  intro y0 y1 y2 y3 y4 y5 y6 y7
  unfold am_.l1
  exact mA_
theorem am_.mono : ∀ a0 k, LeO (am_.f k a0) (am_.f (k + 1) a0) := by
 intro a0 k
 obtain ⟨ih0, ih1⟩ := am_.mono_l k
 unfold am_.f
 exact mA_
def am_.T6 : Bool × List (List Nat × List Nat) := (true, [([], []), ([0], [0]), ([1], [1]), ([2], [2]), ([2], [2]), ([2], [2]), ([5, 2], [2, 5]), ([4, 6, 2], [2, 4, 6]), ([7, 2], [2, 7]), ([3, 8, 2, 2], [2, 3, 8]), ([2, 9], [2, 9])])
def am_.B6 : List Nat := [0, 1, 3, 7, 7, 7, 39, 119, 247, 511, 1023]
theorem am_.tab6 : bI_ .any (dd_ Tryz.f49 6) = am_.T6 := by kernel_rfl
theorem am_.bits6 : bQ_ am_.T6.2 am_.B6 = true := by kernel_rfl
def am_.T8 : Bool × List (List Nat × List Nat) := (true, [([], []), ([], []), ([], []), ([1, 2], [1, 2]), ([0, 3], [0, 3]), ([], []), ([5], [5]), ([4, 6, 4], [4, 6]), ([], []), ([], []), ([8, 9], [8, 9]), ([7, 10, 7], [7, 10]), ([11, 11, 0, 1, 2, 3, 4, 5, 6, 7, 8, 9, 10, 11], [1, 8, 11])])
def am_.B8 : List Nat := [0, 0, 0, 6, 15, 0, 32, 127, 0, 0, 768, 2047, 4095]
theorem am_.tab8 : bI_ .any (dd_ Tryz.f49 8) = am_.T8 := by kernel_rfl
theorem am_.bits8 : bQ_ am_.T8.2 am_.B8 = true := by kernel_rfl
set_option maxHeartbeats 8000000 in
set_option maxRecDepth 100000 in
theorem am_.calls (k : Nat) (A0 : Option Addr) (c0 : Nat) (l0 : List (S61)) (r1 : List (S61)) (r2 : Bool) (w : World) (hr0 : Kd.C k61 w A0 l0.length l0) (hc0 : l0.length ≤ c0) (h : am_.f k l0 = some (r1, r2)) :
  Calls Tryz.prog 49 #[.slice A0 l0.length c0] w fun e w' => ∃ v0_ : Value, e = .returned (.tuple #[v0_, .bool r2]) ∧ Kd.R k61 61 w' w.heap.size (fun _ => True) v0_ r1 ∧ Below w.heap.size w w' := by
 have hu61 := Tryz.underlying61
 have HR0 := aa_.mk hr0
 have HC0 := aa_.mk hc0
 clear hr0 hc0
 have HB := aa_.mk (Below.refl w.heap.size w)
 have H := h; unfold am_.f at H
 clear h
 have H' := aa_.mk H
 clear H
 go_enter Tryz.func49, Tryz.ntmps49
 go_wp2
 go_loopg [4, 10] k (fun kq v4 BZ w' => ∃ (aC : List (S61)) (ag : Int), BZ = .int .i64 ag ∧ aa_ (am_.l0 kq aC l0 (l0.length : Int) ag = some (r1, r2)) ∧ aa_ (kq ≤ k) ∧ aa_ (Kd.R k61 61 w' w.heap.size (fun _ => True) v4 aC) ∧ aa_ (Below w.heap.size w w'))
 case atStart => exact ⟨(([] : List (S61))), (0), (Z14), H', ⟨Nat.le_refl _⟩, ⟨Z17⟩, ⟨Z2⟩⟩
 case round =>
  clear H'
  obtain ⟨aC, ag, rfl, HA, HK1, ak, HB⟩ := hrel
  cases gk with
  | zero => exact absurd HA.out (by simp [am_.l0])
  | succ k1 =>
   have H := HA.out
   clear HA
   simp only [am_.l0] at H
   replace H := iv_ H; obtain ⟨dB, H⟩ | ⟨dB, H⟩ := H
   ·replace H := id_ H; obtain ⟨cU, H⟩ := H
    replace H := id_ H; obtain ⟨da, H⟩ := H
    have H' := aa_.mk H
    clear H
    obtain ⟨ad129, e129, nu, nv, nw, CQ, CR⟩ := d6_ HR0.out HB.out ag
    cases e129
    go_wp2_with (((with_reducible refine au_ (N := 6) rfl ?_); refine bv_ 6 61 #[.int .i64 0, .int .i64 0, .int .i64 0] ?_; intro aI hg w5 hbox hb; refine k5_ (Kd.p5_ (Kd.p6_ (Z1 ak) aI (Nat.le_of_eq hg.symm)) hb) Ws_ (hbox) (Wg_ w aI) (Wg_ w aI) ?_; clear ak HB; intro ak HB aw GW130 GE130; clear hb hbox hg; obtain ⟨lS, lT, nB, nC, lU, nD⟩ := bt_ (w := w5) aw.out; obtain ⟨jA, dN, NX⟩ := Kd.pW_ ak.out; subst NX))
    (try simp only [Act.put, List.setIfInBounds_toArray, List.set_cons_zero, List.set_cons_succ])
    go_loopg [7] k1 (fun kq v7 w' => ∃ (av : Int), v7 = .int .i64 av ∧ aa_ (am_.l1 kq aC av l0 (l0.length : Int) ag ((ab_ l0 ag).f0) ((ab_ l0 ag).f1) ((ab_ l0 ag).f2) = some (r1, r2)) ∧ aa_ (kq ≤ k1) ∧ aa_ (Kd.R k61 61 w' w.heap.size (fun k_ => k_ ≠ aI) (.slice jA aC.length dN) aC) ∧ aa_ (w'.heap[aI]? = some (.cells #[.int .i64 ((ab_ l0 ag).f0), .int .i64 ((ab_ l0 ag).f1), .int .i64 ((ab_ l0 ag).f2)] 61 (0, 0))) ∧ aa_ (Below w.heap.size w w'))
    case atStart => exact ⟨((aC.length : Int)), (Z14), H', ⟨Nat.le_refl _⟩, ⟨by (with_reducible repeat (first | apply Kd.p1_ | apply Kd.p0_ | apply Kd.pZ_)); exact Kd.pX_ (Kd.p4_ (p := ⟨aI, 2, none⟩) (Kd.p4_ (p := ⟨aI, 1, none⟩) (Kd.p4_ (p := ⟨aI, 0, none⟩) (Kd.pX_ ak.out (fun k_ hk => (⟨hk, hk.2⟩ : _ ∧ k_ ≠ aI))) (fun _ hk => hk.2) (.int .i64 ((ab_ l0 ag).f0))) (fun _ hk => hk.2) (.int .i64 ((ab_ l0 ag).f1))) (fun _ hk => hk.2) (.int .i64 ((ab_ l0 ag).f2))) (fun _ hk => hk.1.2)⟩, ⟨Z67 aw⟩, ⟨Z12⟩⟩
    case round =>
     clear H'
     (try clear dB); (try clear cU); (try clear da); (try clear lS); (try clear lT); (try clear nB); (try clear nC); (try clear lU); (try clear nD); (try clear nu); (try clear nv); (try clear nw); (try clear CQ); (try clear CR)
     obtain ⟨av, rfl, HA, HK2, ak, aw, HB⟩ := hrel
     cases gk with
     | zero => exact absurd HA.out (by simp [am_.l1])
     | succ k2 =>
      have H := HA.out
      clear HA
      simp only [am_.l1] at H
      replace H := iw_ H; obtain ⟨c8, H⟩ | ⟨c8, H⟩ := H
      focus
       have gN : decide (0 < av) = true := decide_eq_true c8
       clear c8
       obtain ⟨dA, hji9⟩ : ∃ j_ : Int, (wrap64 (av - 1)) = j_ := ⟨_, rfl⟩
       (first | rw [hji9] at H | simp only [hji9] at H)
       have hji9w : (IntKind.i64.wrap (av - 1)) = dA := (bA_ _).trans hji9
       replace H := id_ H; obtain ⟨de, H⟩ := H
       replace H := id_ H; obtain ⟨dG, H⟩ := H
       replace H := bd_ H; obtain ⟨Bj, Nv, H⟩ := H
       replace H := it_ H; obtain ⟨rfl, H⟩ | ⟨rfl, H⟩ := H
       ·have H' := aa_.mk H
        clear H
        try go_wp2
        refine k3_ (Kd.pZ_ ak.out) (ax_ aw.out) (av_ HB.out) ?_
        clear ak aw HB
        intro ak aw HB
        obtain ⟨b7, e131, lI, lJ, lK, vP, vQ⟩ := d0_ (Kd.pV_ ak.out).2.2 (dA)
        cases e131
        refine b2_ (n := 11) (S := fun w' => w'.cell? ⟨aI, 0, none⟩ = some (.int .i64 ((ab_ l0 ag).f0)) ∧ w'.cell? ⟨aI, 1, none⟩ = some (.int .i64 ((ab_ l0 ag).f1)) ∧ w'.cell? ⟨aI, 2, none⟩ = some (.int .i64 ((ab_ l0 ag).f2)) ∧ w'.cell? (b7.add (((dA)).toNat * 3)) = some (.int .i64 ((ab_ aC (dA)).f0)) ∧ w'.cell? ⟨(b7.add (((dA)).toNat * 3)).block, (b7.add (((dA)).toNat * 3)).off + 1, none⟩ = some (.int .i64 ((ab_ aC (dA)).f1)) ∧ w'.cell? ⟨(b7.add (((dA)).toNat * 3)).block, (b7.add (((dA)).toNat * 3)).off + 2, none⟩ = some (.int .i64 ((ab_ aC (dA)).f2))) (ds := []) (M_ 0 11) (by kernel_rfl) rfl rfl ⟨(aE_ aw.out 0).trans rfl, (aE_ aw.out 1).trans rfl, (aE_ aw.out 2).trans rfl, lI, lJ, lK⟩ (fun hHeld => ?_); refine bz_ am_.tab6 am_.bits6 (fun HT_ HW_ => ?_)
        generalize wr.drew = xg at ak aw HB lI lJ lK hHeld ⊢
        refine pu_ 0 16 (M_ 1 10) ?_
        refine pu_ 1 17 (M_ 2 9) ?_
        refine pu_ 2 18 (M_ 3 8) ?_
        refine pu_ 4 20 (N_ 11 23) ?_
        refine pu_ 5 21 (N_ 11 55) ?_
        refine pu_ 6 22 (N_ 11 119) ?_
        refine pu_ 7 23 (N_ 11 247) ?_
        refine fH_ 3 19 (M_ 8 3) hHeld ?_
        refine fH_ 8 24 (M_ 9 2) hHeld ?_
        refine on_ 9 (some 25) (M_ 10 1) (fun K hK => ?_)
        refine cs_ Tryz.func62 (by kernel_rfl) rfl #[.agg #[.int .i64 ((ab_ l0 ag).f0), .int .i64 ((ab_ l0 ag).f1), .int .i64 ((ab_ l0 ag).f2)], .agg #[.int .i64 ((ab_ aC (dA)).f0), .int .i64 ((ab_ aC (dA)).f1), .int .i64 ((ab_ aC (dA)).f2)]] (by rfl) rfl rfl (oE_) ?_
        with_reducible refine (cm_.calls ((ab_ l0 ag).f0) ((ab_ l0 ag).f1) ((ab_ l0 ag).f2) ((ab_ aC (dA)).f0) ((ab_ aC (dA)).f1) ((ab_ aC (dA)).f2) true _ Nv.out).mono ?_
        rintro e jd ⟨rfl, hb⟩
        have HS3_ := (hb.cell (World.block_lt_of_cell? _ _ (hHeld.2.2.2.1))).trans (hHeld.2.2.2.1)
        have HS4_ := (hb.cell (World.block_lt_of_cell? _ _ (hHeld.2.2.2.2.1))).trans (hHeld.2.2.2.2.1)
        have HS5_ := (hb.cell (World.block_lt_of_cell? _ _ (hHeld.2.2.2.2.2))).trans (hHeld.2.2.2.2.2)
        refine ⟨_, rfl, ?_⟩
        refine k3_ (Ya_ ak) (Ye_ aw) (aq_ (Z12) hb) ?_
        clear ak aw HB
        intro ak aw HB
        (try clear hb)
        (try clear hk)
        refine hK.out _ _ ⟨(aE_ aw.out 0).trans rfl, (aE_ aw.out 1).trans rfl, (aE_ aw.out 2).trans rfl, HS3_, HS4_, HS5_⟩ (fun hHeld => ?_)
        clear hK K
        refine nm_ 25 ?_
        refine pu_ 10 26 (M_ 11 0) ?_
        refine cw_ (bS_ HT_.out (by kernel_rfl)) ?_
        try go_wp2
        go_roundg k2
        case measure => have := HK1.out; have := HK2.out; omega
        case rel => exact ⟨(dA), (by first | rfl | (simp; done) | (simp only [← hji9] <;> (first | rfl | simp)) | (simp [*]; done)), H', ⟨fc_ HK1⟩, ⟨Z1 ak⟩, ⟨Z5 aw⟩, ⟨Z12⟩⟩
       replace H := lt_ H; obtain ⟨jw, wW, H⟩ := H
       replace H := ie_ H; obtain ⟨fQ, c16b1, H⟩ := H
       replace H := ie_ H; obtain ⟨i2, wn, H⟩ := H
       replace H := lt_ H; obtain ⟨dM, mE, H⟩ := H
       replace H := ia_ H; obtain ⟨qO, H⟩ := H
       replace H := lt_ H; obtain ⟨fM, Bl, H⟩ := H
       replace H := lt_ H; obtain ⟨dz, pd, H⟩ := H
       replace H := ia_ H; obtain ⟨zB, H⟩ := H
       replace H := lt_ H; obtain ⟨d4, sr, H⟩ := H
       have dS := eq_true (of_decide_eq_true (Z8) : 0 ≤ av)
       have mo := eq_true (of_decide_eq_true (Z8) : av ≤ (aC.length : Int))
       replace H := lt_ H; obtain ⟨cG, mF, H⟩ := H
       replace H := ia_ H; obtain ⟨ze, H⟩ := H
       generalize e_ : ((d4 ++ cG) : List (S61)) = ML at H
       have Ny153 := aa_.mk e_.symm; clear e_
       have H' := aa_.mk H
       clear H
       try go_wp2
       refine k3_ (Kd.pZ_ ak.out) (ax_ aw.out) (av_ HB.out) ?_
       clear ak aw HB
       intro ak aw HB
       obtain ⟨b7, e131, lI, lJ, lK, vP, vQ⟩ := d0_ (Kd.pV_ ak.out).2.2 (dA)
       cases e131
       refine b2_ (n := 11) (S := fun w' => w'.cell? ⟨aI, 0, none⟩ = some (.int .i64 ((ab_ l0 ag).f0)) ∧ w'.cell? ⟨aI, 1, none⟩ = some (.int .i64 ((ab_ l0 ag).f1)) ∧ w'.cell? ⟨aI, 2, none⟩ = some (.int .i64 ((ab_ l0 ag).f2)) ∧ w'.cell? (b7.add (((dA)).toNat * 3)) = some (.int .i64 ((ab_ aC (dA)).f0)) ∧ w'.cell? ⟨(b7.add (((dA)).toNat * 3)).block, (b7.add (((dA)).toNat * 3)).off + 1, none⟩ = some (.int .i64 ((ab_ aC (dA)).f1)) ∧ w'.cell? ⟨(b7.add (((dA)).toNat * 3)).block, (b7.add (((dA)).toNat * 3)).off + 2, none⟩ = some (.int .i64 ((ab_ aC (dA)).f2))) (ds := []) (M_ 0 11) (by kernel_rfl) rfl rfl ⟨(aE_ aw.out 0).trans rfl, (aE_ aw.out 1).trans rfl, (aE_ aw.out 2).trans rfl, lI, lJ, lK⟩ (fun hHeld => ?_); refine bz_ am_.tab6 am_.bits6 (fun HT_ HW_ => ?_)
       generalize wr.drew = Dp at ak aw HB lI lJ lK hHeld ⊢
       refine pu_ 0 16 (M_ 1 10) ?_
       refine pu_ 1 17 (M_ 2 9) ?_
       refine pu_ 2 18 (M_ 3 8) ?_
       refine pu_ 4 20 (N_ 11 23) ?_
       refine pu_ 5 21 (N_ 11 55) ?_
       refine pu_ 6 22 (N_ 11 119) ?_
       refine pu_ 7 23 (N_ 11 247) ?_
       refine fH_ 3 19 (M_ 8 3) hHeld ?_
       refine fH_ 8 24 (M_ 9 2) hHeld ?_
       refine on_ 9 (some 25) (M_ 10 1) (fun K hK => ?_)
       refine cs_ Tryz.func62 (by kernel_rfl) rfl #[.agg #[.int .i64 ((ab_ l0 ag).f0), .int .i64 ((ab_ l0 ag).f1), .int .i64 ((ab_ l0 ag).f2)], .agg #[.int .i64 ((ab_ aC (dA)).f0), .int .i64 ((ab_ aC (dA)).f1), .int .i64 ((ab_ aC (dA)).f2)]] (by rfl) rfl rfl (oE_) ?_
       with_reducible refine (cm_.calls ((ab_ l0 ag).f0) ((ab_ l0 ag).f1) ((ab_ l0 ag).f2) ((ab_ aC (dA)).f0) ((ab_ aC (dA)).f1) ((ab_ aC (dA)).f2) false _ Nv.out).mono ?_
       rintro e cP ⟨rfl, hb⟩
       have HS3_ := (hb.cell (World.block_lt_of_cell? _ _ (hHeld.2.2.2.1))).trans (hHeld.2.2.2.1)
       have HS4_ := (hb.cell (World.block_lt_of_cell? _ _ (hHeld.2.2.2.2.1))).trans (hHeld.2.2.2.2.1)
       have HS5_ := (hb.cell (World.block_lt_of_cell? _ _ (hHeld.2.2.2.2.2))).trans (hHeld.2.2.2.2.2)
       refine ⟨_, rfl, ?_⟩
       refine k3_ (Ya_ ak) (Ye_ aw) (aq_ (Z12) hb) ?_
       clear ak aw HB
       intro ak aw HB
       (try clear hb)
       (try clear hk)
       refine hK.out _ _ ⟨(aE_ aw.out 0).trans rfl, (aE_ aw.out 1).trans rfl, (aE_ aw.out 2).trans rfl, HS3_, HS4_, HS5_⟩ (fun hHeld => ?_)
       clear hK K
       refine nm_ 25 ?_
       refine pu_ 10 26 (M_ 11 0) ?_
       refine cw_ (bS_ HT_.out (by kernel_rfl)) ?_
       try go_wp2
       generalize some b7 = jA at ak ⊢
      rotate_left
      focus
       have gN : decide (0 < av) = false := decide_eq_false c8
       clear c8
       with_reducible replace H := lt_ H; obtain ⟨jw, wW, H⟩ := H
       replace H := ie_ H; obtain ⟨oc, tR, H⟩ := H
       replace H := ie_ H; obtain ⟨D8, c38b1, H⟩ := H
       replace H := lt_ H; obtain ⟨dM, mE, H⟩ := H
       replace H := ia_ H; obtain ⟨qO, H⟩ := H
       replace H := lt_ H; obtain ⟨fM, Bl, H⟩ := H
       replace H := lt_ H; obtain ⟨dz, pd, H⟩ := H
       replace H := ia_ H; obtain ⟨zB, H⟩ := H
       replace H := lt_ H; obtain ⟨d4, sr, H⟩ := H
       have c41b0 := eq_true (of_decide_eq_true (Z8) : 0 ≤ av)
       have Aj := eq_true (of_decide_eq_true (Z8) : av ≤ (aC.length : Int))
       replace H := lt_ H; obtain ⟨cG, mF, H⟩ := H
       replace H := ia_ H; obtain ⟨ze, H⟩ := H
       generalize e_ : ((d4 ++ cG) : List (S61)) = ML at H
       have Ny153 := aa_.mk e_.symm; clear e_
       have H' := aa_.mk H
       clear H
       try go_wp2
       refine k3_ (Kd.pZ_ ak.out) (ax_ aw.out) (av_ HB.out) ?_
       clear ak aw HB
       intro ak aw HB
       refine b2_ (n := 11) (S := fun w' => True) (ds := []) (M_ 0 11) (by kernel_rfl) rfl rfl trivial (fun hHeld => ?_); refine bz_ am_.tab6 am_.bits6 (fun HT_ HW_ => ?_)
       generalize wr.drew = cP at ak aw HB hHeld ⊢
       refine pu_ 0 16 (M_ 1 10) ?_
       refine pu_ 1 17 (M_ 2 9) ?_
       refine pu_ 2 18 (M_ 3 8) ?_
       refine pn_ 3 19 (M_ 4 7) ?_
       refine pn_ 4 20 (M_ 5 6) ?_
       refine pn_ 5 21 (M_ 6 5) ?_
       refine pn_ 6 22 (M_ 7 4) ?_
       refine pn_ 7 23 (M_ 8 3) ?_
       refine pn_ 8 24 (M_ 9 2) ?_
       refine pn_ 9 25 (M_ 10 1) ?_
       refine pu_ 10 26 (M_ 11 0) ?_
       refine cw_ (bS_ HT_.out (by kernel_rfl)) ?_
       try go_wp2
      all_goals
       refine k3_ (Kd.pZ_ ak.out) (ax_ aw.out) (av_ HB.out) ?_
       clear ak aw HB
       intro ak aw HB
       have NY : (av : Int) ≤ ((aC.length : Int) : Int) := of_decide_eq_true (Z8)
       obtain ⟨i026, hi026, _, hsz26, _⟩ := info_parts eY_
       have hroom26 : aC.length ≤ dN := (Kd.pV_ ak.out).2.1
       have hC26 : Kd.C k61 _ jA aC.length aC := (Kd.pV_ ak.out).2.2
       have hcut26 := go_ (P := Tryz.prog) 24 61 .i64 Tryz.underlying24 hi026 jA aC.length dN av (of_decide_eq_true (Z8)) NY hroom26
       have hr26 := Kd.qi_ (m := (av : Int).toNat) hC26 (by omega)
       have IT : dM.length = (av : Int).toNat := (je_ mE)
       rw [← mE.out] at hr26
       rw [← IT] at hcut26
       have HR139 := aa_.mk hr26
       have HC139 := aa_.mk (show dM.length ≤ dN from by omega)
       clear hr26 hC26 hroom26 hi026 hsz26
       have KY26 := aa_.mk IT
       clear IT
       have KL26 := aa_.mk (show (av : Int).toNat ≤ aC.length from by omega)
       replace NY := eq_true NY
       have NZ : (av : Int) ≤ ((aC.length : Int) : Int) := of_decide_eq_true (Z8)
       obtain ⟨i027, hi027, _, hsz27, _⟩ := info_parts eY_
       have hroom27 : aC.length ≤ dN := (Kd.pV_ ak.out).2.1
       have hC27 : Kd.C k61 _ jA aC.length aC := (Kd.pV_ ak.out).2.2
       have q027 : (0 : Int) ≤ (av : Int) := of_decide_eq_true (Z8)
       have hcut27 := jI_ (P := Tryz.prog) 24 61 .i64 Tryz.underlying24 hi027 3 hsz27 jA aC.length dN av q027 NZ
       have hr27 := Kd.ql_ (m := (av : Int).toNat) (c := dN) hC27 (by omega) hroom27
       obtain ⟨IU, hA27⟩ : ∃ A1, A1 = (if dN = (av : Int).toNat then jA else (jA : Option Addr).map (·.add ((av : Int).toNat * 3))) := ⟨_, rfl⟩
       obtain ⟨c27, hc27⟩ : ∃ c1, c1 = dN - (av : Int).toNat := ⟨_, rfl⟩
       have CS : cG.length = aC.length - (av : Int).toNat := (by rw [mF.out, List.length_drop] <;> omega)
       rw [show (aC).drop (av : Int).toNat = cG from mF.out.symm] at hr27
       replace hr27 : Kd.C k61 _ IU cG.length cG := (by rw [hA27]; exact hr27)
       rw [← CS, ← hA27, ← hc27] at hcut27
       have HR152 := aa_.mk hr27
       have HC152 := aa_.mk (show cG.length ≤ c27 from by rw [CS, hc27]; exact Nat.sub_le_sub_right hroom27 _)
       clear hr27 hC27 hroom27 hi027 hsz27 hc27
       have KY27 := aa_.mk CS
       have xV := aa_.mk hA27
       clear CS hA27
       have KL27 := aa_.mk (show (av : Int).toNat ≤ aC.length from by omega)
       replace NZ := eq_true NZ
       refine b2_ (n := 13) (S := fun w' => w'.cell? ⟨aI, 0, none⟩ = some (.int .i64 ((ab_ l0 ag).f0)) ∧ w'.cell? ⟨aI, 1, none⟩ = some (.int .i64 ((ab_ l0 ag).f1)) ∧ w'.cell? ⟨aI, 2, none⟩ = some (.int .i64 ((ab_ l0 ag).f2))) (ds := []) (M_ 0 13) (by kernel_rfl) rfl rfl (cp_ aw.out) (fun hHeld => ?_); refine bz_ am_.tab8 am_.bits8 (fun HT_ HW_ => ?_)
       generalize cP.drew = Dq at ak aw HB HR139 HR152 hHeld ⊢
       refine pu_ 1 30 (N_ 13 2) ?_
       refine pu_ 2 31 (N_ 13 6) ?_
       refine pu_ 3 32 (N_ 13 14) ?_
       refine pu_ 8 37 (N_ 13 270) ?_
       refine pu_ 9 38 (N_ 13 782) ?_
       refine pu_ 10 39 (N_ 13 1806) ?_
       refine fX_ 5 34 (N_ 13 1838) hHeld ?_
       refine iV_ (σ := Value × Value × Value) 3 (N_ 13 1919) (fun s_ => [(29, s_.1), (33, s_.2.1), (35, s_.2.2)]) (fun s_ w' => (w'.cell? ⟨aI, 0, none⟩ = some (.int .i64 ((ab_ l0 ag).f0)) ∧ w'.cell? ⟨aI, 1, none⟩ = some (.int .i64 ((ab_ l0 ag).f1)) ∧ w'.cell? ⟨aI, 2, none⟩ = some (.int .i64 ((ab_ l0 ag).f2))) ∧ (Kd.R k61 61 w' w.heap.size (fun k_ => some k_ ≠ (s_.2.2 : Value).ownBlock ∧ some k_ ≠ (.slice jA aC.length dN : Value).ownBlock ∧ k_ ≠ aI) s_.2.1 fM) ∧ (Kd.R k61 61 w' w.heap.size (fun k_ => some k_ ≠ (s_.2.1 : Value).ownBlock ∧ some k_ ≠ (.slice jA aC.length dN : Value).ownBlock ∧ k_ ≠ aI) s_.2.2 dz) ∧ (Kd.R k61 61 w' w.heap.size (fun k_ => some k_ ≠ (s_.2.1 : Value).ownBlock ∧ some k_ ≠ (s_.2.2 : Value).ownBlock ∧ k_ ≠ aI) (.slice jA aC.length dN) aC) ∧ (w'.heap[aI]? = some (.cells #[.int .i64 ((ab_ l0 ag).f0), .int .i64 ((ab_ l0 ag).f1), .int .i64 ((ab_ l0 ag).f2)] 61 (0, 0))) ∧ (Below w.heap.size w w')) ?_ ?_
       rotate_left
       ·intro hCont
        refine gn_ (i := 0) (j := 6) (Ni := some 29) (Nj := some 35) (N_ 13 1839) (N_ 13 1902) rfl rfl rfl rfl (eW_ HT_.out (by kernel_rfl)) (by decide) (by decide) (fun K hK => ?_) (fun K hK => ?_)
        ·skip
         refine ls_ k61 61 29 ([] : List (S61)) [] (aH_.none _ _) ?_
         intro tP i3 ho29 hb hg_ hnew_
         clear hg_ hnew_
         (first | rw [← wW.out] at ho29 | (simp only [Int.reduceToNat] at ho29; rw [← wW.out] at ho29))
         refine k6_ (We_ ak ho29) (Kd.pY_ (Kd.qa_ (Kd.p3_ ho29 (Yd_ ak)) (zo_ aw)) (ao_ (Z12))) (Ye_ aw) (Kd.p7_ (Z11 HR139) hb) (Kd.p7_ (Z11 HR152) hb) (aq_ (Z12) hb) ?_
         clear ak aw HR139 HR152 HB
         intro ak fA aw HR139 HR152 HB
         clear hb ho29
         refine hK.out _ _ (cp_ aw.out) (fun hHeld => ?_)
         clear hK K
         refine nm_ 29 ?_
         refine gn_ (i := 4) (j := 6) (Ni := some 33) (Nj := some 35) (N_ 13 1855) (N_ 13 1903) rfl rfl rfl rfl (eW_ HT_.out (by kernel_rfl)) (by decide) (by decide) (fun K hK => ?_) (fun K hK => ?_)
         ·skip
          refine e6_ (w0 := w) w.heap.size (.tmp 29) (.tmp 32) tP jw dM (fun k_ => some k_ ≠ (.slice jA aC.length dN : Value).ownBlock ∧ k_ ≠ aI) rfl rfl ?aO ?aR ?aF ?aB ?aS ?aL ?_
          (case aR => exact m4_)
          (case aB => exact Z12)
          (case aF => exact (fun k_ hk => ⟨Kd.fresh' (Yd_ ak) k_ hk, Kd.freshB (zo_ aw) k_ hk⟩))
          (case aO => exact (Z55 fA))
          (case aS => exact (ao_ (Z12)))
          (case aL => exact Z91 qO)
          intro oO iG ho hb hg hat
          rw [← Bl.out] at ho
          refine k6_ (Kd.p2_ (ok := (fun k_ => k_ ≠ aI)) (Z1 ak) hg hat) (bg_ (zo_ aw) hg (Kd.qh_ fA.out (fun _ hk => hk.2))) (hb) ((show Kd.C k61 iG jA dM.length dM from by rw [mE.out]; exact Kd.qi_ (m := (av : Int).toNat) ((Kd.pV_ (Kd.p2_ (ok := (fun k_ => k_ ≠ aI)) (Z1 ak) hg hat)).2.2) KL26.out)) ((show Kd.C k61 iG IU cG.length cG from by rw [mF.out, xV.out]; exact Kd.ql_ (m := (av : Int).toNat) (c := dN) ((Kd.pV_ (Kd.p2_ (ok := (fun k_ => k_ ≠ aI)) (Z1 ak) hg hat)).2.2) KL27.out ((Kd.pV_ (Kd.p2_ (ok := (fun k_ => k_ ≠ aI)) (Z1 ak) hg hat)).2.1))) (ho) ?_
          clear ak aw HB HR139 HR152 fA
          intro ak aw HB HR139 HR152 gc
          clear ho hb hg hat
          refine hK.out _ _ (cp_ aw.out) (fun hHeld => ?_)
          clear hK K
          refine nm_ 33 ?_
          refine on_ 6 (some 35) (N_ 13 1919) (fun K hK => ?_)
          refine ls_ k61 61 35 ([(⟨((ab_ l0 ag).f0), ((ab_ l0 ag).f1), ((ab_ l0 ag).f2)⟩ : S61)] : List (S61)) [.int .i64 ((ab_ l0 ag).f0), .int .i64 ((ab_ l0 ag).f1), .int .i64 ((ab_ l0 ag).f2)] (aH_.c3 (show Kd.M k61 _ _ _ (⟨((ab_ l0 ag).f0), ((ab_ l0 ag).f1), ((ab_ l0 ag).f2)⟩ : S61) [.int .i64 ((ab_ l0 ag).f0), .int .i64 ((ab_ l0 ag).f1), .int .i64 ((ab_ l0 ag).f2)] from (b9_ _ _ _ (⟨((ab_ l0 ag).f0), ((ab_ l0 ag).f1), ((ab_ l0 ag).f2)⟩ : S61) )) (aH_.none _ _)) ?_
          intro gA Ns ho32 hb hg_ hnew_
          clear hg_ hnew_
          (first | rw [← pd.out] at ho32 | (simp only [Int.reduceToNat] at ho32; rw [← pd.out] at ho32))
          refine k7_ (We_ ak ho32) (We_ gc ho32) (Kd.pY_ (Kd.qa_ (Kd.p3_ (Kd.p3_ ho32 (Yd_ ak)) (Yd_ gc)) (zo_ aw)) (ao_ (Z12))) (Ye_ aw) (Kd.p7_ (Z11 HR139) hb) (Kd.p7_ (Z11 HR152) hb) (aq_ (Z12) hb) ?_
          clear ak gc aw HR139 HR152 HB
          intro ak gc cL aw HR139 HR152 HB
          clear hb ho32
          refine hK.out _ _ (cp_ aw.out) (fun hHeld => ?_)
          clear hK K
          refine nm_ 35 ?_
          exact dk_ (Z58) (hCont (tP, oO, gA) _ ⟨hHeld, (Z73 gc), (pr_ cL), (ps_), (Z5 aw), (Z12)⟩)
         skip
         refine ls_ k61 61 35 ([(⟨((ab_ l0 ag).f0), ((ab_ l0 ag).f1), ((ab_ l0 ag).f2)⟩ : S61)] : List (S61)) [.int .i64 ((ab_ l0 ag).f0), .int .i64 ((ab_ l0 ag).f1), .int .i64 ((ab_ l0 ag).f2)] (aH_.c3 (show Kd.M k61 _ _ _ (⟨((ab_ l0 ag).f0), ((ab_ l0 ag).f1), ((ab_ l0 ag).f2)⟩ : S61) [.int .i64 ((ab_ l0 ag).f0), .int .i64 ((ab_ l0 ag).f1), .int .i64 ((ab_ l0 ag).f2)] from (b9_ _ _ _ (⟨((ab_ l0 ag).f0), ((ab_ l0 ag).f1), ((ab_ l0 ag).f2)⟩ : S61) )) (aH_.none _ _)) ?_
         intro gA iG ho31 hb hg_ hnew_
         clear hg_ hnew_
         (first | rw [← pd.out] at ho31 | (simp only [Int.reduceToNat] at ho31; rw [← pd.out] at ho31))
         refine k7_ (We_ ak ho31) (We_ fA ho31) (Kd.pY_ (Kd.qa_ (Kd.p3_ (Kd.p3_ ho31 (Yd_ ak)) (Yd_ fA)) (zo_ aw)) (ao_ (Z12))) (Ye_ aw) (Kd.p7_ (Z11 HR139) hb) (Kd.p7_ (Z11 HR152) hb) (aq_ (Z12) hb) ?_
         clear ak fA aw HR139 HR152 HB
         intro ak fA cL aw HR139 HR152 HB
         clear hb ho31
         refine hK.out _ _ (cp_ aw.out) (fun hHeld => ?_)
         clear hK K
         refine nm_ 35 ?_
         refine on_ 4 (some 33) (N_ 13 1919) (fun K hK => ?_)
         refine e6_ (w0 := w) w.heap.size (.tmp 29) (.tmp 32) tP jw dM (fun k_ => some k_ ≠ (.slice jA aC.length dN : Value).ownBlock ∧ some k_ ≠ (gA : Value).ownBlock ∧ k_ ≠ aI) rfl rfl ?aO ?aR ?aF ?aB ?aS ?aL ?_
         (case aR => exact m4_)
         (case aB => exact Z12)
         (case aF => exact (fun k_ hk => ⟨Kd.fresh' (Yd_ ak) k_ hk, Kd.fresh' (Yd_ cL) k_ hk, Kd.freshB (zo_ aw) k_ hk⟩))
         (case aO => exact (pK_ fA))
         (case aS => exact (ao_ (Z12)))
         (case aL => exact Z91 qO)
         intro oO wo ho hb hg hat
         rw [← Bl.out] at ho
         refine k7_ (Kd.p2_ (ok := (fun k_ => some k_ ≠ (gA : Value).ownBlock ∧ k_ ≠ aI)) (Z79) hg hat) (bg_ (zo_ aw) hg (Kd.qh_ fA.out (fun _ hk => hk.1.2))) (Kd.p2_ (ok := (fun k_ => some k_ ≠ (.slice jA aC.length dN : Value).ownBlock ∧ k_ ≠ aI)) (pG_ cL) hg hat) (hb) ((show Kd.C k61 wo jA dM.length dM from by rw [mE.out]; exact Kd.qi_ (m := (av : Int).toNat) ((Kd.pV_ (Kd.p2_ (ok := (fun k_ => some k_ ≠ (gA : Value).ownBlock ∧ k_ ≠ aI)) (Z79) hg hat)).2.2) KL26.out)) ((show Kd.C k61 wo IU cG.length cG from by rw [mF.out, xV.out]; exact Kd.ql_ (m := (av : Int).toNat) (c := dN) ((Kd.pV_ (Kd.p2_ (ok := (fun k_ => some k_ ≠ (gA : Value).ownBlock ∧ k_ ≠ aI)) (Z79) hg hat)).2.2) KL27.out ((Kd.pV_ (Kd.p2_ (ok := (fun k_ => some k_ ≠ (gA : Value).ownBlock ∧ k_ ≠ aI)) (Z79) hg hat)).2.1))) (ho) ?_
         clear ak aw cL HB HR139 HR152 fA
         intro ak aw cL HB HR139 HR152 gc
         clear ho hb hg hat
         refine hK.out _ _ (cp_ aw.out) (fun hHeld => ?_)
         clear hK K
         refine nm_ 33 ?_
         exact dk_ (Z58) (hCont (tP, oO, gA) _ ⟨hHeld, (Z93 gc), (Z73 cL), (Z73 ak), (Z5 aw), (Z12)⟩)
        skip
        refine ls_ k61 61 35 ([(⟨((ab_ l0 ag).f0), ((ab_ l0 ag).f1), ((ab_ l0 ag).f2)⟩ : S61)] : List (S61)) [.int .i64 ((ab_ l0 ag).f0), .int .i64 ((ab_ l0 ag).f1), .int .i64 ((ab_ l0 ag).f2)] (aH_.c3 (show Kd.M k61 _ _ _ (⟨((ab_ l0 ag).f0), ((ab_ l0 ag).f1), ((ab_ l0 ag).f2)⟩ : S61) [.int .i64 ((ab_ l0 ag).f0), .int .i64 ((ab_ l0 ag).f1), .int .i64 ((ab_ l0 ag).f2)] from (b9_ _ _ _ (⟨((ab_ l0 ag).f0), ((ab_ l0 ag).f1), ((ab_ l0 ag).f2)⟩ : S61) )) (aH_.none _ _)) ?_
        intro gA i3 ho29 hb hg_ hnew_
        clear hg_ hnew_
        (first | rw [← pd.out] at ho29 | (simp only [Int.reduceToNat] at ho29; rw [← pd.out] at ho29))
        refine k6_ (We_ ak ho29) (Kd.pY_ (Kd.qa_ (Kd.p3_ ho29 (Yd_ ak)) (zo_ aw)) (ao_ (Z12))) (Ye_ aw) (Kd.p7_ (Z11 HR139) hb) (Kd.p7_ (Z11 HR152) hb) (aq_ (Z12) hb) ?_
        clear ak aw HR139 HR152 HB
        intro ak cL aw HR139 HR152 HB
        clear hb ho29
        refine hK.out _ _ (cp_ aw.out) (fun hHeld => ?_)
        clear hK K
        refine nm_ 35 ?_
        refine on_ 0 (some 29) (N_ 13 1903) (fun K hK => ?_)
        refine ls_ k61 61 29 ([] : List (S61)) [] (aH_.none _ _) ?_
        intro tP iG ho31 hb hg_ hnew_
        clear hg_ hnew_
        (first | rw [← wW.out] at ho31 | (simp only [Int.reduceToNat] at ho31; rw [← wW.out] at ho31))
        refine k7_ (We_ ak ho31) (We_ cL ho31) (Kd.pY_ (Kd.qa_ (Kd.p3_ (Kd.p3_ ho31 (Yd_ ak)) (Yd_ cL)) (zo_ aw)) (ao_ (Z12))) (Ye_ aw) (Kd.p7_ (Z11 HR139) hb) (Kd.p7_ (Z11 HR152) hb) (aq_ (Z12) hb) ?_
        clear ak cL aw HR139 HR152 HB
        intro ak cL fA aw HR139 HR152 HB
        clear hb ho31
        refine hK.out _ _ (cp_ aw.out) (fun hHeld => ?_)
        clear hK K
        refine nm_ 29 ?_
        refine on_ 4 (some 33) (N_ 13 1919) (fun K hK => ?_)
        refine e6_ (w0 := w) w.heap.size (.tmp 29) (.tmp 32) tP jw dM (fun k_ => some k_ ≠ (.slice jA aC.length dN : Value).ownBlock ∧ some k_ ≠ (gA : Value).ownBlock ∧ k_ ≠ aI) rfl rfl ?aO ?aR ?aF ?aB ?aS ?aL ?_
        (case aR => exact m4_)
        (case aB => exact Z12)
        (case aF => exact (fun k_ hk => ⟨Kd.fresh' (Yd_ ak) k_ hk, Kd.fresh' (Yd_ cL) k_ hk, Kd.freshB (zo_ aw) k_ hk⟩))
        (case aO => exact (oA_ fA))
        (case aS => exact (ao_ (Z12)))
        (case aL => exact Z91 qO)
        intro oO wo ho hb hg hat
        rw [← Bl.out] at ho
        refine k7_ (Kd.p2_ (ok := (fun k_ => some k_ ≠ (gA : Value).ownBlock ∧ k_ ≠ aI)) (Z80) hg hat) (bg_ (zo_ aw) hg (Kd.qh_ fA.out (fun _ hk => hk.2))) (Kd.p2_ (ok := (fun k_ => some k_ ≠ (.slice jA aC.length dN : Value).ownBlock ∧ k_ ≠ aI)) (pB_ cL) hg hat) (hb) ((show Kd.C k61 wo jA dM.length dM from by rw [mE.out]; exact Kd.qi_ (m := (av : Int).toNat) ((Kd.pV_ (Kd.p2_ (ok := (fun k_ => some k_ ≠ (gA : Value).ownBlock ∧ k_ ≠ aI)) (Z80) hg hat)).2.2) KL26.out)) ((show Kd.C k61 wo IU cG.length cG from by rw [mF.out, xV.out]; exact Kd.ql_ (m := (av : Int).toNat) (c := dN) ((Kd.pV_ (Kd.p2_ (ok := (fun k_ => some k_ ≠ (gA : Value).ownBlock ∧ k_ ≠ aI)) (Z80) hg hat)).2.2) KL27.out ((Kd.pV_ (Kd.p2_ (ok := (fun k_ => some k_ ≠ (gA : Value).ownBlock ∧ k_ ≠ aI)) (Z80) hg hat)).2.1))) (ho) ?_
        clear ak aw cL HB HR139 HR152 fA
        intro ak aw cL HB HR139 HR152 gc
        clear ho hb hg hat
        refine hK.out _ _ (cp_ aw.out) (fun hHeld => ?_)
        clear hK K
        refine nm_ 33 ?_
        exact dk_ (Z58) (hCont (tP, oO, gA) _ ⟨hHeld, (Z93 gc), (Z73 cL), (Z73 ak), (Z5 aw), (Z12)⟩)
       rintro ⟨tP, oO, gA⟩ m9 ⟨hS_, h0_, h1_, h2_, h3_, h4_⟩
       refine k5_ (show Kd.R k61 61 m9 w.heap.size (fun k_ => some k_ ≠ (gA : Value).ownBlock ∧ some k_ ≠ (.slice jA aC.length dN : Value).ownBlock ∧ k_ ≠ aI) oO fM from h0_) (show Kd.R k61 61 m9 w.heap.size (fun k_ => some k_ ≠ (oO : Value).ownBlock ∧ some k_ ≠ (.slice jA aC.length dN : Value).ownBlock ∧ k_ ≠ aI) gA dz from h1_) (show Kd.R k61 61 m9 w.heap.size (fun k_ => some k_ ≠ (oO : Value).ownBlock ∧ some k_ ≠ (gA : Value).ownBlock ∧ k_ ≠ aI) (.slice jA aC.length dN) aC from h2_) (show m9.heap[aI]? = some (.cells #[.int .i64 ((ab_ l0 ag).f0), .int .i64 ((ab_ l0 ag).f1), .int .i64 ((ab_ l0 ag).f2)] 61 (0, 0)) from h3_) (show Below w.heap.size w m9 from h4_) ?_
       clear ak aw HB h0_ h1_ h2_ h3_ h4_
       intro gc cL ak aw HB
       have hHeld : m9.cell? ⟨aI, 0, none⟩ = some (.int .i64 ((ab_ l0 ag).f0)) ∧ m9.cell? ⟨aI, 1, none⟩ = some (.int .i64 ((ab_ l0 ag).f1)) ∧ m9.cell? ⟨aI, 2, none⟩ = some (.int .i64 ((ab_ l0 ag).f2)) := hS_
       have n_ := aa_.mk (show Kd.C k61 _ jA dM.length dM from by rw [mE.out]; exact Kd.qi_ (m := (av : Int).toNat) ((Kd.pV_ ak.out).2.2) KL26.out)
       (try clear HR139)
       have HR139 := n_
       clear n_
       have n_ := aa_.mk (show Kd.C k61 _ IU cG.length cG from by rw [mF.out, xV.out]; exact Kd.ql_ (m := (av : Int).toNat) (c := dN) ((Kd.pV_ ak.out).2.2) KL27.out ((Kd.pV_ ak.out).2.1))
       (try clear HR152)
       have HR152 := n_
       clear n_
       obtain ⟨n0, j8, Cj⟩ := Kd.pW_ cL.out
       (first | subst Cj | (injection Cj with f1_ f2_ f3_; have f4_ := f1_.symm; have f5_ := f3_.symm; clear f1_ f2_ f3_; subst f4_; subst f5_))
       refine dk_ (a' := ?_) ?_ ?_
       rotate_left
       ·simp only [e0_, Act.put, List.setIfInBounds_toArray, List.set_cons_zero, List.set_cons_succ]
        rfl
       refine on_ 7 (some 36) (M_ 11 2) (fun K hK => ?_)
       refine e6_ (w0 := w) w.heap.size (.tmp 33) (.tmp 35) oO fM dz (fun k_ => some k_ ≠ (.slice jA aC.length dN : Value).ownBlock ∧ some k_ ≠ (.slice n0 dz.length j8 : Value).ownBlock ∧ k_ ≠ aI) rfl rfl ?aO ?aR ?aF ?aB ?aS ?aL ?_
       (case aR => exact Z3 cL)
       (case aB => exact Z12)
       (case aF => exact (fun k_ hk => ⟨Kd.fresh' (Yd_ ak) k_ hk, Kd.fresh' (Yd_ cL) k_ hk, Kd.freshB (zo_ aw) k_ hk⟩))
       (case aO => exact (Z93 gc))
       (case aS => exact (ao_ (Z12)))
       (case aL => exact Z91 zB)
       intro Cu ws ho hb hg hat
       rw [← sr.out] at ho
       refine k7_ (Kd.p2_ (ok := (fun k_ => some k_ ≠ (.slice n0 dz.length j8 : Value).ownBlock ∧ k_ ≠ aI)) (Z74 ak) hg hat) (bg_ (zo_ aw) hg (Kd.qh_ gc.out (fun _ hk => hk.2.2))) (Kd.p2_ (ok := (fun k_ => some k_ ≠ (.slice jA aC.length dN : Value).ownBlock ∧ k_ ≠ aI)) (Z74 cL) hg hat) (hb) ((show Kd.C k61 ws jA dM.length dM from by rw [mE.out]; exact Kd.qi_ (m := (av : Int).toNat) ((Kd.pV_ (Kd.p2_ (ok := (fun k_ => some k_ ≠ (.slice n0 dz.length j8 : Value).ownBlock ∧ k_ ≠ aI)) (Z74 ak) hg hat)).2.2) KL26.out)) ((show Kd.C k61 ws IU cG.length cG from by rw [mF.out, xV.out]; exact Kd.ql_ (m := (av : Int).toNat) (c := dN) ((Kd.pV_ (Kd.p2_ (ok := (fun k_ => some k_ ≠ (.slice n0 dz.length j8 : Value).ownBlock ∧ k_ ≠ aI)) (Z74 ak) hg hat)).2.2) KL27.out ((Kd.pV_ (Kd.p2_ (ok := (fun k_ => some k_ ≠ (.slice n0 dz.length j8 : Value).ownBlock ∧ k_ ≠ aI)) (Z74 ak) hg hat)).2.1))) (ho) ?_
       clear ak aw cL HB HR139 HR152 gc
       intro ak aw cL HB HR139 HR152 n9
       clear ho hb hg hat
       refine hK.out _ _ (cp_ aw.out) (fun hHeld => ?_)
       clear hK K
       refine nm_ 36 ?_
       refine on_ 11 (some 40) (M_ 12 1) (fun K hK => ?_)
       refine e6_ (w0 := w) w.heap.size (.tmp 36) (.tmp 39) Cu d4 cG (fun k_ => some k_ ≠ (.slice jA aC.length dN : Value).ownBlock ∧ some k_ ≠ (.slice n0 dz.length j8 : Value).ownBlock ∧ k_ ≠ aI) rfl rfl ?aO ?aR ?aF ?aB ?aS ?aL ?_
       (case aR => repeat (first | exact (Z11 HR152) | (with_reducible refine Kd.qg_ ?_ _) | (with_reducible refine Kd.qn_ ?_ _) | (with_reducible refine Kd.qo_ ?_)))
       (case aB => exact Z12)
       (case aF => exact (fun k_ hk => ⟨Kd.fresh' (Yd_ ak) k_ hk, Kd.fresh' (Yd_ cL) k_ hk, Kd.freshB (zo_ aw) k_ hk⟩))
       (case aO => exact (Z1 n9))
       (case aS => exact (ao_ (Z12)))
       (case aL => exact Z91 ze)
       intro v154 GU ho hb hg hat
       rw [← Ny153.out] at ho
       refine k7_ (Kd.p2_ (ok := (fun k_ => some k_ ≠ (.slice n0 dz.length j8 : Value).ownBlock ∧ k_ ≠ aI)) (Z1 ak) hg hat) (bg_ (zo_ aw) hg (Kd.qh_ n9.out (fun _ hk => hk.2.2))) (Kd.p2_ (ok := (fun k_ => some k_ ≠ (.slice jA aC.length dN : Value).ownBlock ∧ k_ ≠ aI)) (Z1 cL) hg hat) (hb) ((show Kd.C k61 GU jA dM.length dM from by rw [mE.out]; exact Kd.qi_ (m := (av : Int).toNat) ((Kd.pV_ (Kd.p2_ (ok := (fun k_ => some k_ ≠ (.slice n0 dz.length j8 : Value).ownBlock ∧ k_ ≠ aI)) (Z1 ak) hg hat)).2.2) KL26.out)) ((show Kd.C k61 GU IU cG.length cG from by rw [mF.out, xV.out]; exact Kd.ql_ (m := (av : Int).toNat) (c := dN) ((Kd.pV_ (Kd.p2_ (ok := (fun k_ => some k_ ≠ (.slice n0 dz.length j8 : Value).ownBlock ∧ k_ ≠ aI)) (Z1 ak) hg hat)).2.2) KL27.out ((Kd.pV_ (Kd.p2_ (ok := (fun k_ => some k_ ≠ (.slice n0 dz.length j8 : Value).ownBlock ∧ k_ ≠ aI)) (Z1 ak) hg hat)).2.1))) (ho) ?_
       clear ak aw cL HB HR139 HR152 n9
       intro ak aw cL HB HR139 HR152 HO155
       clear ho hb hg hat
       refine hK.out _ _ (cp_ aw.out) (fun hHeld => ?_)
       clear hK K
       refine nm_ 40 ?_
       refine pu_ 12 4 (M_ 13 0) ?_
       refine cw_ (bS_ HT_.out (by kernel_rfl)) ?_
       try go_wp2
       go_roundg k2
       case measure => have := HK1.out; have := HK2.out; omega
       case rel => exact ⟨(ML), (wrap64 (ag + 1)), (Z14), H', ⟨fc_ HK1⟩, ⟨Z38 HO155⟩, ⟨Z12⟩⟩
   replace H := bd_ H; obtain ⟨IR, Np, H⟩ := H
   replace H := it_ H; obtain ⟨rfl, H⟩ | ⟨rfl, H⟩ := H
   ·obtain ⟨rfl, rfl⟩ := sp_ H; clear H
    obtain ⟨KZ, K0, IH⟩ := Kd.pW_ ak.out
    subst IH
    go_wp2_with (((with_reducible refine ae_ (f := 30) rfl ?_); refine gl_ 43 Tryz.func30 #[.slice KZ aC.length K0] ?_; (with_reducible refine (aw_.calls k1 _ _ aC true _ ?_ ?_ Np.out).mono ?_); exact (Z3 ak); exact (Kd.pV_ ak.out).2.1; rintro e Hj ⟨rfl, hb⟩; refine ⟨_, rfl, ?_⟩; refine k2_ (Ya_ ak) Ws_ ?_; clear ak HB; intro ak HB; (try clear hb)))
    go_ret2
    exact ⟨_, Z9, Z1 ak, Z2⟩
   obtain ⟨rfl, rfl⟩ := sp_ H; clear H
   obtain ⟨Ch, rP, GZ⟩ := Kd.pW_ ak.out
   subst GZ
   go_wp2_with (((with_reducible refine ae_ (f := 30) rfl ?_); refine gl_ 43 Tryz.func30 #[.slice Ch aC.length rP] ?_; (with_reducible refine (aw_.calls k1 _ _ aC false _ ?_ ?_ Np.out).mono ?_); exact (Z3 ak); exact (Kd.pV_ ak.out).2.1; rintro e w62 ⟨rfl, hb⟩; refine ⟨_, rfl, ?_⟩; refine k2_ (Ya_ ak) Ws_ ?_; clear ak HB; intro ak HB; (try clear hb)))
   go_ret2
   exact ⟨_, Z9, Z17, Z2⟩
theorem ji_ {p : Prop} (h : p := by repeat' first | (with_reducible first | apply ih0 | apply ih0 | apply ih1 | apply ih1 | apply ih2 | apply ih2 | apply am_.mono | apply am_.mono | apply a8_.mono | apply a8_.mono | exact LeO.refl _ | exact LeO.none _ | refine LeO.ite ?_ ?_ | refine LeO.bind ?_ (fun _ => ?_)) | exact LeO.none _ | refine LeO.ite ?_ ?_ | refine LeO.bind ?_ (fun _ => ?_)) : p := h
def a8_.f (k : Nat) (l0 : List (S61)) (a1_0 : Int) (a1_1 : Int) (a1_2 : Int) : Option ((List (S61)) × Bool) := (some (([] : List (S61)) : List (S61))).bind fun l9 => (if l9.length + l0.length < 5864062014805 then ((some (l9 ++ l0 : List (S61))).bind fun gV => ((some (([(⟨a1_0, a1_1, a1_2⟩ : S61)] : List (S61)) : List (S61))).bind fun gg => (if gV.length + gg.length < 5864062014805 then ((am_.f k (gV ++ gg)).bind fun ej => (some (ej.1, ej.2))) else (none)))) else (none))
theorem a8_.mono : ∀ a0 a1 a2 a3 k, LeO (a8_.f k a0 a1 a2 a3) (a8_.f (k + 1) a0 a1 a2 a3) := by
 intro a0 a1 a2 a3 k
 unfold a8_.f
 exact ji_
def a8_.T1 : Bool × List (List Nat × List Nat) := (true, [([], []), ([], []), ([0, 1], [0, 1]), ([], []), ([3], [3]), ([2, 4, 2], [2, 4]), ([5, 5], [5]), ([6], [6]), ([6], [6]), ([7, 6, 0, 1, 2, 3, 4, 5, 6, 7, 8], [7]), ([8, 9, 0, 1, 2, 3, 4, 5, 6, 7, 8, 9], [8])])
def a8_.B1 : List Nat := [0, 0, 3, 0, 8, 31, 63, 127, 127, 511, 1023]
theorem a8_.tab1 : bI_ .any (dd_ Tryz.f56 1) = a8_.T1 := by kernel_rfl
theorem a8_.bits1 : bQ_ a8_.T1.2 a8_.B1 = true := by kernel_rfl
set_option maxHeartbeats 8000000 in
set_option maxRecDepth 100000 in
theorem a8_.calls (k : Nat) (A0 : Option Addr) (c0 : Nat) (l0 : List (S61)) (a1_0 : Int) (a1_1 : Int) (a1_2 : Int) (r1 : List (S61)) (r2 : Bool) (w : World) (hr0 : Kd.C k61 w A0 l0.length l0) (hc0 : l0.length ≤ c0) (h : a8_.f k l0 a1_0 a1_1 a1_2 = some (r1, r2)) :
  Calls Tryz.prog 56 #[.slice A0 l0.length c0, .agg #[.int .i64 a1_0, .int .i64 a1_1, .int .i64 a1_2]] w fun e w' => ∃ v0_ : Value, e = .returned (.tuple #[v0_, .bool r2]) ∧ Kd.R k61 61 w' w.heap.size (fun _ => True) v0_ r1 ∧ Below w.heap.size w w' := by
 have hu61 := Tryz.underlying61
 have HR0 := aa_.mk hr0
 have HC0 := aa_.mk hc0
 clear hr0 hc0
 have HB := aa_.mk (Below.refl w.heap.size w)
 have H := h; unfold a8_.f at H
 clear h
 replace H := lt_ H; obtain ⟨l9, wY, H⟩ := H
 replace H := ia_ H; obtain ⟨IX, H⟩ := H
 replace H := lt_ H; obtain ⟨gV, Bp, H⟩ := H
 replace H := lt_ H; obtain ⟨gg, pf, H⟩ := H
 replace H := ia_ H; obtain ⟨LMc4, H⟩ := H
 generalize e_ : ((gV ++ gg) : List (S61)) = IY at H
 have Ny189 := aa_.mk e_.symm; clear e_
 replace H := bd_ H; obtain ⟨⟨MN, MO⟩, A5, H⟩ := H
 replace H : (some (MN, MO)) = some (r1, r2) := H
 obtain ⟨rfl, rfl⟩ := sp_ H; clear H
 go_enter Tryz.func56, Tryz.ntmps56
 try go_wp2_with (((with_reducible refine au_ (N := 3) rfl ?_); refine bv_ 3 61 #[.int .i64 a1_0, .int .i64 a1_1, .int .i64 a1_2] ?_; intro b8 hg w6 hbox hb; refine k4_ Ws_ (hbox) (Wg_ w b8) (Wg_ w b8) ?_; clear HB; intro HB aZ GW179 GE179; clear hb hbox hg))
 refine k2_ (ax_ aZ.out) (av_ HB.out) ?_
 clear aZ HB
 intro aZ HB
 refine b2_ (n := 11) (S := fun w' => w'.cell? ⟨b8, 0, none⟩ = some (.int .i64 a1_0) ∧ w'.cell? ⟨b8, 1, none⟩ = some (.int .i64 a1_1) ∧ w'.cell? ⟨b8, 2, none⟩ = some (.int .i64 a1_2)) (ds := []) (M_ 0 11) (by kernel_rfl) rfl rfl (cp_ aZ.out) (fun hHeld => ?_); refine bz_ a8_.tab1 a8_.bits1 (fun HT_ HW_ => ?_)
 generalize w6.drew = w7 at aZ HB hHeld ⊢
 refine pu_ 1 7 (N_ 11 2) ?_
 refine fX_ 3 9 (N_ 11 10) hHeld ?_
 refine iV_ (σ := Value × Value × Value) 6 (M_ 5 6) (fun s_ => [(6, s_.1), (8, s_.2.1), (10, s_.2.2)]) (fun s_ w' => (w'.cell? ⟨b8, 0, none⟩ = some (.int .i64 a1_0) ∧ w'.cell? ⟨b8, 1, none⟩ = some (.int .i64 a1_1) ∧ w'.cell? ⟨b8, 2, none⟩ = some (.int .i64 a1_2)) ∧ (Kd.R k61 61 w' w.heap.size (fun k_ => some k_ ≠ (s_.2.2 : Value).ownBlock ∧ k_ ≠ b8) s_.2.1 gV) ∧ (Kd.R k61 61 w' w.heap.size (fun k_ => some k_ ≠ (s_.2.1 : Value).ownBlock ∧ k_ ≠ b8) s_.2.2 gg) ∧ (w'.heap[b8]? = some (.cells #[.int .i64 a1_0, .int .i64 a1_1, .int .i64 a1_2] 61 (0, 0))) ∧ (Below w.heap.size w w')) ?_ ?_
 rotate_left
 ·intro hCont
  refine gn_ (i := 0) (j := 4) (Ni := some 6) (Nj := some 10) (N_ 11 11) (N_ 11 26) rfl rfl rfl rfl (eW_ HT_.out (by kernel_rfl)) (by decide) (by decide) (fun K hK => ?_) (fun K hK => ?_)
  ·skip
   refine ls_ k61 61 6 ([] : List (S61)) [] (aH_.none _ _) ?_
   intro t3 w8 ho9 hb hg_ hnew_
   clear hg_ hnew_
   (first | rw [← wY.out] at ho9 | (simp only [Int.reduceToNat] at ho9; rw [← wY.out] at ho9))
   refine k3_ (Kd.pY_ (Kd.qa_ ho9 (zo_ aZ)) (ao_ (Z22))) (Ye_ aZ) (aq_ (Z22) hb) ?_
   clear aZ HB
   intro fC aZ HB
   clear hb ho9
   refine hK.out _ _ (cp_ aZ.out) (fun hHeld => ?_)
   clear hK K
   refine nm_ 6 ?_
   refine gn_ (i := 2) (j := 4) (Ni := some 8) (Nj := some 10) (M_ 4 7) (N_ 11 27) rfl rfl rfl rfl (eW_ HT_.out (by kernel_rfl)) (by decide) (by decide) (fun K hK => ?_) (fun K hK => ?_)
   ·skip
    refine e6_ (w0 := w) w.heap.size (.tmp 6) (.tmp 7) t3 l9 l0 (fun k_ => k_ ≠ b8) rfl rfl ?aO ?aR ?aF ?aB ?aS ?aL ?_
    (case aR => exact Z10 HR0)
    (case aB => exact Z22)
    (case aF => exact (fun k_ hk => Kd.freshB (zo_ aZ) k_ hk))
    (case aO => exact (Z61 fC))
    (case aS => exact (ao_ (Z22)))
    (case aL => exact Z91 IX)
    intro qr jc ho hb hg hat
    rw [← Bp.out] at ho
    refine k3_ (bg_ (zo_ aZ) hg (Kd.qh_ fC.out (fun _ hk => hk.2))) (hb) (ho) ?_
    clear aZ HB fC
    intro aZ HB gh
    clear ho hb hg hat
    refine hK.out _ _ (cp_ aZ.out) (fun hHeld => ?_)
    clear hK K
    refine nm_ 8 ?_
    refine on_ 4 (some 10) (M_ 5 6) (fun K hK => ?_)
    refine ls_ k61 61 10 ([(⟨a1_0, a1_1, a1_2⟩ : S61)] : List (S61)) [.int .i64 a1_0, .int .i64 a1_1, .int .i64 a1_2] (aH_.c3 (show Kd.M k61 _ _ _ (⟨a1_0, a1_1, a1_2⟩ : S61) [.int .i64 a1_0, .int .i64 a1_1, .int .i64 a1_2] from (b9_ _ _ _ (⟨a1_0, a1_1, a1_2⟩ : S61) )) (aH_.none _ _)) ?_
    intro oQ nI ho12 hb hg_ hnew_
    clear hg_ hnew_
    (first | rw [← pf.out] at ho12 | (simp only [Int.reduceToNat] at ho12; rw [← pf.out] at ho12))
    refine k4_ (We_ gh ho12) (Kd.pY_ (Kd.qa_ (Kd.p3_ ho12 (Yd_ gh)) (zo_ aZ)) (ao_ (Z22))) (Ye_ aZ) (aq_ (Z22) hb) ?_
    clear gh aZ HB
    intro gh cN aZ HB
    clear hb ho12
    refine hK.out _ _ (cp_ aZ.out) (fun hHeld => ?_)
    clear hK K
    refine nm_ 10 ?_
    exact dk_ (Z58) (hCont (t3, qr, oQ) _ ⟨hHeld, (Z96 gh), (Z55 cN), (Z5 aZ), (Z22)⟩)
   skip
   refine ls_ k61 61 10 ([(⟨a1_0, a1_1, a1_2⟩ : S61)] : List (S61)) [.int .i64 a1_0, .int .i64 a1_1, .int .i64 a1_2] (aH_.c3 (show Kd.M k61 _ _ _ (⟨a1_0, a1_1, a1_2⟩ : S61) [.int .i64 a1_0, .int .i64 a1_1, .int .i64 a1_2] from (b9_ _ _ _ (⟨a1_0, a1_1, a1_2⟩ : S61) )) (aH_.none _ _)) ?_
   intro oQ jc ho11 hb hg_ hnew_
   clear hg_ hnew_
   (first | rw [← pf.out] at ho11 | (simp only [Int.reduceToNat] at ho11; rw [← pf.out] at ho11))
   refine k4_ (We_ fC ho11) (Kd.pY_ (Kd.qa_ (Kd.p3_ ho11 (Yd_ fC)) (zo_ aZ)) (ao_ (Z22))) (Ye_ aZ) (aq_ (Z22) hb) ?_
   clear fC aZ HB
   intro fC cN aZ HB
   clear hb ho11
   refine hK.out _ _ (cp_ aZ.out) (fun hHeld => ?_)
   clear hK K
   refine nm_ 10 ?_
   refine on_ 2 (some 8) (M_ 5 6) (fun K hK => ?_)
   refine e6_ (w0 := w) w.heap.size (.tmp 6) (.tmp 7) t3 l9 l0 (fun k_ => some k_ ≠ (oQ : Value).ownBlock ∧ k_ ≠ b8) rfl rfl ?aO ?aR ?aF ?aB ?aS ?aL ?_
   (case aR => exact Z10 HR0)
   (case aB => exact Z22)
   (case aF => exact (fun k_ hk => ⟨Kd.fresh' (Yd_ cN) k_ hk, Kd.freshB (zo_ aZ) k_ hk⟩))
   (case aO => exact (ks_ fC))
   (case aS => exact (ao_ (Z22)))
   (case aL => exact Z91 IX)
   intro qr qT ho hb hg hat
   rw [← Bp.out] at ho
   refine k4_ (bg_ (zo_ aZ) hg (Kd.qh_ fC.out (fun _ hk => hk.1.2))) (Kd.p2_ (ok := (fun k_ => k_ ≠ b8)) (ks_ cN) hg hat) (hb) (ho) ?_
   clear aZ cN HB fC
   intro aZ cN HB gh
   clear ho hb hg hat
   refine hK.out _ _ (cp_ aZ.out) (fun hHeld => ?_)
   clear hK K
   refine nm_ 8 ?_
   exact dk_ (Z58) (hCont (t3, qr, oQ) _ ⟨hHeld, (Z1 gh), (Z96 cN), (Z5 aZ), (Z22)⟩)
  skip
  refine ls_ k61 61 10 ([(⟨a1_0, a1_1, a1_2⟩ : S61)] : List (S61)) [.int .i64 a1_0, .int .i64 a1_1, .int .i64 a1_2] (aH_.c3 (show Kd.M k61 _ _ _ (⟨a1_0, a1_1, a1_2⟩ : S61) [.int .i64 a1_0, .int .i64 a1_1, .int .i64 a1_2] from (b9_ _ _ _ (⟨a1_0, a1_1, a1_2⟩ : S61) )) (aH_.none _ _)) ?_
  intro oQ w8 ho9 hb hg_ hnew_
  clear hg_ hnew_
  (first | rw [← pf.out] at ho9 | (simp only [Int.reduceToNat] at ho9; rw [← pf.out] at ho9))
  refine k3_ (Kd.pY_ (Kd.qa_ ho9 (zo_ aZ)) (ao_ (Z22))) (Ye_ aZ) (aq_ (Z22) hb) ?_
  clear aZ HB
  intro cN aZ HB
  clear hb ho9
  refine hK.out _ _ (cp_ aZ.out) (fun hHeld => ?_)
  clear hK K
  refine nm_ 10 ?_
  refine on_ 0 (some 6) (N_ 11 27) (fun K hK => ?_)
  refine ls_ k61 61 6 ([] : List (S61)) [] (aH_.none _ _) ?_
  intro t3 jc ho11 hb hg_ hnew_
  clear hg_ hnew_
  (first | rw [← wY.out] at ho11 | (simp only [Int.reduceToNat] at ho11; rw [← wY.out] at ho11))
  refine k4_ (We_ cN ho11) (Kd.pY_ (Kd.qa_ (Kd.p3_ ho11 (Yd_ cN)) (zo_ aZ)) (ao_ (Z22))) (Ye_ aZ) (aq_ (Z22) hb) ?_
  clear cN aZ HB
  intro cN fC aZ HB
  clear hb ho11
  refine hK.out _ _ (cp_ aZ.out) (fun hHeld => ?_)
  clear hK K
  refine nm_ 6 ?_
  refine on_ 2 (some 8) (M_ 5 6) (fun K hK => ?_)
  refine e6_ (w0 := w) w.heap.size (.tmp 6) (.tmp 7) t3 l9 l0 (fun k_ => some k_ ≠ (oQ : Value).ownBlock ∧ k_ ≠ b8) rfl rfl ?aO ?aR ?aF ?aB ?aS ?aL ?_
  (case aR => exact Z10 HR0)
  (case aB => exact Z22)
  (case aF => exact (fun k_ hk => ⟨Kd.fresh' (Yd_ cN) k_ hk, Kd.freshB (zo_ aZ) k_ hk⟩))
  (case aO => exact (Z55 fC))
  (case aS => exact (ao_ (Z22)))
  (case aL => exact Z91 IX)
  intro qr qT ho hb hg hat
  rw [← Bp.out] at ho
  refine k4_ (bg_ (zo_ aZ) hg (Kd.qh_ fC.out (fun _ hk => hk.2))) (Kd.p2_ (ok := (fun k_ => k_ ≠ b8)) (Z55 cN) hg hat) (hb) (ho) ?_
  clear aZ cN HB fC
  intro aZ cN HB gh
  clear ho hb hg hat
  refine hK.out _ _ (cp_ aZ.out) (fun hHeld => ?_)
  clear hK K
  refine nm_ 8 ?_
  exact dk_ (Z58) (hCont (t3, qr, oQ) _ ⟨hHeld, (Z1 gh), (Z96 cN), (Z5 aZ), (Z22)⟩)
 rintro ⟨t3, qr, oQ⟩ oE ⟨hS_, h0_, h1_, h2_, h3_⟩
 refine k4_ (show Kd.R k61 61 oE w.heap.size (fun k_ => some k_ ≠ (oQ : Value).ownBlock ∧ k_ ≠ b8) qr gV from h0_) (show Kd.R k61 61 oE w.heap.size (fun k_ => some k_ ≠ (qr : Value).ownBlock ∧ k_ ≠ b8) oQ gg from h1_) (show oE.heap[b8]? = some (.cells #[.int .i64 a1_0, .int .i64 a1_1, .int .i64 a1_2] 61 (0, 0)) from h2_) (show Below w.heap.size w oE from h3_) ?_
 clear aZ HB h0_ h1_ h2_ h3_
 intro gh cN aZ HB
 have hHeld : oE.cell? ⟨b8, 0, none⟩ = some (.int .i64 a1_0) ∧ oE.cell? ⟨b8, 1, none⟩ = some (.int .i64 a1_1) ∧ oE.cell? ⟨b8, 2, none⟩ = some (.int .i64 a1_2) := hS_
 obtain ⟨nG, jG, jH⟩ := Kd.pW_ cN.out
 (first | subst jH | (injection jH with f1_ f2_ f3_; have f4_ := f1_.symm; have f5_ := f3_.symm; clear f1_ f2_ f3_; subst f4_; subst f5_))
 refine dk_ (a' := ?_) ?_ ?_
 rotate_left
 ·simp only [e0_, Act.put, List.setIfInBounds_toArray, List.set_cons_zero, List.set_cons_succ]
  rfl
 refine on_ 5 (some 11) (M_ 6 5) (fun K hK => ?_)
 refine e6_ (w0 := w) w.heap.size (.tmp 8) (.tmp 10) qr gV gg (fun k_ => some k_ ≠ (.slice nG gg.length jG : Value).ownBlock ∧ k_ ≠ b8) rfl rfl ?aO ?aR ?aF ?aB ?aS ?aL ?_
 (case aR => exact Z3 cN)
 (case aB => exact Z22)
 (case aF => exact (fun k_ hk => ⟨Kd.fresh' (Yd_ cN) k_ hk, Kd.freshB (zo_ aZ) k_ hk⟩))
 (case aO => exact (Z1 gh))
 (case aS => exact (ao_ (Z22)))
 (case aL => exact Z91 LMc4)
 intro xE xg ho hb hg hat
 rw [← Ny189.out] at ho
 refine k4_ (bg_ (zo_ aZ) hg (Kd.qh_ gh.out (fun _ hk => hk.2))) (Kd.p2_ (ok := (fun k_ => k_ ≠ b8)) (Z96 cN) hg hat) (hb) (ho) ?_
 clear aZ cN HB gh
 intro aZ cN HB oq
 clear ho hb hg hat
 obtain ⟨KR, KS, CD⟩ := Kd.pW_ oq.out
 (first | subst CD | (injection CD with f1_ f2_ f3_; have f4_ := f1_.symm; have f5_ := f3_.symm; clear f1_ f2_ f3_; subst f4_; subst f5_))
 refine hK.out _ _ (cp_ aZ.out) (fun hHeld => ?_)
 clear hK K
 refine nm_ 11 ?_
 refine on_ 6 (some 12) (M_ 7 4) (fun K hK => ?_)
 refine cs_ Tryz.func49 (by kernel_rfl) rfl #[.slice KR IY.length KS] (by rfl) rfl rfl (Z43) ?_
 with_reducible refine (am_.calls k _ _ IY MN MO _ ?side1 ?side2 A5.out).mono ?_
 (case side1 => exact Z3 oq)
 (case side2 => exact (Kd.pV_ oq.out).2.1)
 rintro e oD ⟨Hz, rfl, ho0, hb⟩
 refine ⟨_, rfl, ?_⟩
 refine k5_ (Yb_ cN) (Yb_ oq) (Kd.pY_ (Kd.qa_ (Kd.p3_ (Kd.p3_ ho0 (Yd_ cN)) (Yd_ oq)) (zo_ aZ)) (ao_ (Z22))) (Ye_ aZ) (aq_ (Z22) hb) ?_
 clear cN oq aZ HB
 intro cN oq sh aZ HB
 (try clear hb)
 (try clear hk)
 (try clear ho0)
 refine hK.out _ _ (cp_ aZ.out) (fun hHeld => ?_)
 clear hK K
 refine nm_ 12 ?_
 refine pu_ 7 13 (M_ 8 3) ?_
 refine pu_ 8 14 (M_ 9 2) ?_
 refine pu_ 9 4 (M_ 10 1) ?_
 refine pu_ 10 5 (M_ 11 0) ?_
 refine cw_ (bS_ HT_.out (by kernel_rfl)) ?_
 try go_wp2
 go_ret2
 exact ⟨_, Z9, Z38 sh, Z22⟩
def aY_.f (s0_0 : List Int) (s0_1 : Int) (s0_2 : Int) (l1 : List Int) : Option (Int × Int × Int) := (ar_.f s0_0 s0_1 s0_2 (l1.length : Int)).bind fun ic => (if 0 ≤ ic.1 then (if ic.1 < (l1.length : Int) then (some (rd l1 ic.1, ic.2.1, ic.2.2)) else (none)) else (none))
set_option maxHeartbeats 8000000 in
set_option maxRecDepth 100000 in
theorem aY_.calls (g : Nat) (s0_0 : List Int) (s0_1 : Int) (s0_2 : Int) (A1 : Option Addr) (c1 : Nat) (l1 : List Int) (r1 : Int) (r2 : Int) (r3 : Int) (w0 w : World) (hI : aj_ w0 w g s0_0 s0_1 s0_2) (hB : Below w0.heap.size w0 w) (hr1 : Kd.C (Kd.int .i64) w A1 l1.length l1) (hc1 : l1.length ≤ c1) (hf1 : ∀ ad, A1 = some ad → 0 < l1.length → ad.block ≠ g) (h : aY_.f s0_0 s0_1 s0_2 l1 = some (r1, r2, r3)) :
  Calls Tryz.prog 75 #[.pointer (some ⟨g, 0, none⟩), .slice A1 l1.length c1] w fun e w' => e = .returned (.int .i64 r1) ∧ aj_ w0 w' g s0_0 r2 r3 ∧ Below w0.heap.size w0 w' ∧ ag_ w w' g none := by
 have HR1 := aa_.mk hr1
 have HC1 := aa_.mk hc1
 clear hr1 hc1
 have HI0 := aa_.mk hI
 have HK := aa_.mk (ag_.refl w g none)
 have HL := aa_.mk hB.size
 clear hI
 have HW0 := aa_.mk hB.size
 have HB := aa_.mk hB
 clear hB
 have H := h; unfold aY_.f at H
 clear h
 replace H := bd_ H; obtain ⟨⟨t4, t197, t198⟩, A3, H⟩ := H
 (try dsimp only at H)
 replace H := id_ H; obtain ⟨da, H⟩ := H
 replace H := id_ H; obtain ⟨dp, H⟩ := H
 obtain ⟨rfl, rfl, rfl⟩ := sq_ H; clear H
 go_enter Tryz.func75, Tryz.ntmps75
 go_wp2_with (((with_reducible refine ae_ (f := 39) rfl ?_); refine gl_ 9 Tryz.func39 #[.pointer (some ⟨g, 0, none⟩), .int .i64 (l1.length : Int)] ?_; (with_reducible refine (ar_.calls g s0_0 s0_1 s0_2 (l1.length : Int) t4 t197 t198 w0 _ ?_ ?_ A3.out).mono ?_); exact (Z4 HI0); exact Z7; rintro e w6 ⟨rfl, hi, hb, hk⟩; refine ⟨_, rfl, ?_⟩; refine k3_ Wk_ (hb) (hi) ?_; clear HK HB HI0; intro HK HB HI0; (try clear hb hk hi); have IZ : 0 ≤ (t4 : Int) := of_decide_eq_true (Z8); have I0 : t4 < (l1.length : Int) := of_decide_eq_true (Z8); obtain ⟨ad199, e199, wZ⟩ := Kd.at_int HR1.out t4 IZ I0; cases e199; replace wZ := cR_ HK.out wZ (by first | (rw [bo_]; exact hf1 _ rfl (by omega)) | exact hf1 _ rfl (by omega) | exact hf1 ad199 rfl (by omega)); replace IZ := eq_true IZ; replace I0 := eq_true I0))
 go_ret
 exact ⟨Z9, Z4 HI0, Z7, Z6⟩
def bL_.f (s0_0 : List Int) (s0_1 : Int) (s0_2 : Int) : Option (Int × Int × Int × Int × Int) := (ar_.f s0_0 s0_1 s0_2 40).bind fun ot => ((ar_.f s0_0 ot.2.1 ot.2.2 60).bind fun ou => ((aY_.f s0_0 ou.2.1 ou.2.2 (([0, 2, 5, ot.1, ou.1, 1990] : List Int))).bind fun fD => ((ar_.f s0_0 fD.2.1 fD.2.2 20).bind fun ig => ((aY_.f s0_0 ig.2.1 ig.2.2 (([0, 1, 2, 3, 5, ig.1] : List Int))).bind fun e4 => ((aY_.f s0_0 e4.2.1 e4.2.2 (([1, 2, 3, 4, 10] : List Int))).bind fun d3 => (some (e4.1, fD.1, wrap64 (fD.1 + d3.1), d3.2.1, d3.2.2)))))))
set_option maxHeartbeats 8000000 in
set_option maxRecDepth 100000 in
theorem bL_.calls (g : Nat) (s0_0 : List Int) (s0_1 : Int) (s0_2 : Int) (r1 : Int) (r2 : Int) (r3 : Int) (r4 : Int) (r5 : Int) (w0 w : World) (hI : aj_ w0 w g s0_0 s0_1 s0_2) (hB : Below w0.heap.size w0 w) (h : bL_.f s0_0 s0_1 s0_2 = some (r1, r2, r3, r4, r5)) :
  Calls Tryz.prog 86 #[.pointer (some ⟨g, 0, none⟩)] w fun e w' => e = .returned (.agg #[.int .i64 r1, .int .i64 r2, .int .i64 r3]) ∧ aj_ w0 w' g s0_0 r4 r5 ∧ Below w0.heap.size w0 w' ∧ ag_ w w' g none := by
 have hu61 := Tryz.underlying61
 have HI0 := aa_.mk hI
 have HK := aa_.mk (ag_.refl w g none)
 have HL := aa_.mk hB.size
 clear hI
 have HW0 := aa_.mk hB.size
 have HB := aa_.mk hB
 clear hB
 have H := h; unfold bL_.f at H
 clear h
 replace H := bd_ H; obtain ⟨⟨xX, MP, rj⟩, A2, H⟩ := H
 (try dsimp only at H)
 replace H := bd_ H; obtain ⟨⟨xY, CU, CV⟩, A3, H⟩ := H
 (try dsimp only at H)
 generalize e_ : ((([0, 2, 5, xX, xY, 1990] : List Int)) : List Int) = I1 at H
 have F9 := aa_.mk e_.symm; clear e_
 replace H := bd_ H; obtain ⟨⟨t7, I2, cY⟩, A4, H⟩ := H
 (try dsimp only at H)
 replace H := bd_ H; obtain ⟨⟨xZ, Bq, Br⟩, A5, H⟩ := H
 (try dsimp only at H)
 generalize e_ : ((([0, 1, 2, 3, 5, xZ] : List Int)) : List Int) = I3 at H
 have Ga := aa_.mk e_.symm; clear e_
 replace H := bd_ H; obtain ⟨⟨Bs, ya, yb⟩, A6, H⟩ := H
 (try dsimp only at H)
 generalize e_ : ((([1, 2, 3, 4, 10] : List Int)) : List Int) = I4 at H
 have Gb := aa_.mk e_.symm; clear e_
 replace H := bd_ H; obtain ⟨⟨MQ, t226, nP⟩, A7, H⟩ := H
 (try dsimp only at H)
 simp only [Option.some.injEq, Prod.mk.injEq] at H
 obtain ⟨rfl, rfl, rfl, rfl, rfl⟩ := H
 go_enter Tryz.func86, Tryz.ntmps86
 go_wp2_with (first | ((with_reducible refine au_ (N := 2) rfl ?_); refine bv_ 2 61 #[.int .i64 0, .int .i64 0, .int .i64 0] ?_; intro gM hg w8 hbox hb; refine k8_ (aj_.below (Z4 HI0) hb) Wl_ (aq_ (Z7) hb) (hbox) ((Z88 : w.heap.size ≤ gM)) ((Nat.le_trans HW0.out (Z88 : w.heap.size ≤ gM) : w0.heap.size ≤ gM)) ((i8_ : g ≠ gM)) ((jl_ : gM ≠ g)) ?_; clear HI0 HK HB; intro HI0 HK HB cA GW200 GE200 wa gC; clear hb hbox hg) | ((with_reducible refine ae_ (f := 39) rfl ?_); refine gl_ 6 Tryz.func39 #[.pointer (some ⟨g, 0, none⟩), .int .i64 40] ?_; (with_reducible refine (ar_.calls g s0_0 s0_1 s0_2 40 xX MP rj w0 _ ?_ ?_ A2.out).mono ?_); exact Z27; exact Z53; rintro e w9 ⟨rfl, hi, hb, hk⟩; refine ⟨_, rfl, ?_⟩; refine k4_ (ag_.blk hk (zo_ cA) gC.out (by simp)) (ag_.trans (Z46) hk (.inl rfl)) (hb) (hi) ?_; clear cA HK HB HI0; intro cA HK HB HI0; (try clear hb hk hi)) | ((with_reducible refine ae_ (f := 39) rfl ?_); refine gl_ 8 Tryz.func39 #[.pointer (some ⟨g, 0, none⟩), .int .i64 60] ?_; (with_reducible refine (ar_.calls g s0_0 MP rj 60 xY CU CV w0 _ ?_ ?_ A3.out).mono ?_); exact Z27; exact Z53; rintro e jc ⟨rfl, hi, hb, hk⟩; refine ⟨_, rfl, ?_⟩; refine k4_ (ag_.blk hk (zo_ cA) gC.out (by simp)) (ag_.trans (Z46) hk (.inl rfl)) (hb) (hi) ?_; clear cA HK HB HI0; intro cA HK HB HI0; (try clear hb hk hi)) | ((with_reducible refine au_ (N := 9) rfl ?_); refine lu_ (Kd.int .i64) 3 9 ([0, 2, 5, xX, xY, 1990] : List Int) [.int .i64 0, .int .i64 2, .int .i64 5, .int .i64 xX, .int .i64 xY, .int .i64 1990] (aH_.one (show Kd.M (Kd.int .i64) _ _ _ 0 [.int .i64 0] from rfl) (aH_.one (show Kd.M (Kd.int .i64) _ _ _ 2 [.int .i64 2] from rfl) (aH_.one (show Kd.M (Kd.int .i64) _ _ _ 5 [.int .i64 5] from rfl) (aH_.one (show Kd.M (Kd.int .i64) _ _ _ xX [.int .i64 xX] from rfl) (aH_.one (show Kd.M (Kd.int .i64) _ _ _ xY [.int .i64 xY] from rfl) (aH_.one (show Kd.M (Kd.int .i64) _ _ _ 1990 [.int .i64 1990] from rfl) (aH_.none _ _))))))) ?_; intro v208 nI ho12 hb hg_ hnew_; clear hg_ hnew_; (first | rw [← F9.out] at ho12 | (simp only [Int.reduceToNat] at ho12; rw [← F9.out] at ho12)); refine k5_ (Kd.pY_ ho12 (a9_ (w := w) (g := g) (row := none) (Z46))) (aj_.below (Z27) hb) (Ye_ cA) (ag_.trans (Z46) (ag_.of_below hb g none) (.inl rfl)) (aq_ (Z53) hb) ?_; clear HI0 cA HK HB; intro db HI0 cA HK HB; clear hb ho12; obtain ⟨oF, oG, GF⟩ := Kd.pW_ db.out; subst GF) | ((with_reducible refine ae_ (f := 75) rfl ?_); refine gl_ 10 Tryz.func75 #[.pointer (some ⟨g, 0, none⟩), .slice oF I1.length oG] ?_; (with_reducible refine (aY_.calls g s0_0 CU CV _ _ I1 t7 I2 cY w0 _ ?_ ?_ ?_ ?_ ?_ A4.out).mono ?_); exact Z27; exact Z53; exact (Z3 db); exact (Kd.pV_ db.out).2.1; exact ci_ (aj_.own_ne HI0.out db.out (by decide)); rintro e xg ⟨rfl, hi, hb, hk⟩; refine ⟨_, rfl, ?_⟩; refine k5_ (ag_.blk hk (zo_ cA) gC.out (by simp)) (Kd.pX_ (Kd.p8_ (aj_.apart (show aj_ w0 _ g s0_0 CU CV from Z27) (Z1 db) (by decide)) hk (fun _ h => h.2)) (fun _ h => h.1)) (ag_.trans (Z46) hk (.inl rfl)) (hb) (hi) ?_; clear cA db HK HB HI0; intro cA db HK HB HI0; (try clear hb hk hi)) | ((with_reducible refine ae_ (f := 39) rfl ?_); refine gl_ 13 Tryz.func39 #[.pointer (some ⟨g, 0, none⟩), .int .i64 20] ?_; (with_reducible refine (ar_.calls g s0_0 I2 cY 20 xZ Bq Br w0 _ ?_ ?_ A5.out).mono ?_); exact Z27; exact Z53; rintro e jd ⟨rfl, hi, hb, hk⟩; refine ⟨_, rfl, ?_⟩; refine k5_ (ag_.blk hk (zo_ cA) gC.out (by simp)) (Kd.pX_ (Kd.p8_ (aj_.apart (show aj_ w0 _ g s0_0 I2 cY from Z27) (Z1 db) (by decide)) hk (fun _ h => h.2)) (fun _ h => h.1)) (ag_.trans (Z46) hk (.inl rfl)) (hb) (hi) ?_; clear cA db HK HB HI0; intro cA db HK HB HI0; (try clear hb hk hi)) | ((with_reducible refine au_ (N := 14) rfl ?_); refine lu_ (Kd.int .i64) 3 14 ([0, 1, 2, 3, 5, xZ] : List Int) [.int .i64 0, .int .i64 1, .int .i64 2, .int .i64 3, .int .i64 5, .int .i64 xZ] (aH_.one (show Kd.M (Kd.int .i64) _ _ _ 0 [.int .i64 0] from rfl) (aH_.one (show Kd.M (Kd.int .i64) _ _ _ 1 [.int .i64 1] from rfl) (aH_.one (show Kd.M (Kd.int .i64) _ _ _ 2 [.int .i64 2] from rfl) (aH_.one (show Kd.M (Kd.int .i64) _ _ _ 3 [.int .i64 3] from rfl) (aH_.one (show Kd.M (Kd.int .i64) _ _ _ 5 [.int .i64 5] from rfl) (aH_.one (show Kd.M (Kd.int .i64) _ _ _ xZ [.int .i64 xZ] from rfl) (aH_.none _ _))))))) ?_; intro v217 lR ho17 hb hg_ hnew_; clear hg_ hnew_; (first | rw [← Ga.out] at ho17 | (simp only [Int.reduceToNat] at ho17; rw [← Ga.out] at ho17)); refine k6_ (We_ db ho17) (Kd.pY_ (Kd.p3_ ho17 (Yd_ db)) (a9_ (w := w) (g := g) (row := none) (Z46))) (aj_.below (Z27) hb) (Ye_ cA) (ag_.trans (Z46) (ag_.of_below hb g none) (.inl rfl)) (aq_ (Z53) hb) ?_; clear db HI0 cA HK HB; intro db fE HI0 cA HK HB; clear hb ho17; obtain ⟨BW, BX, uD⟩ := Kd.pW_ fE.out; subst uD) | ((with_reducible refine ae_ (f := 75) rfl ?_); refine gl_ 15 Tryz.func75 #[.pointer (some ⟨g, 0, none⟩), .slice BW I3.length BX] ?_; (with_reducible refine (aY_.calls g s0_0 Bq Br _ _ I3 Bs ya yb w0 _ ?_ ?_ ?_ ?_ ?_ A6.out).mono ?_); exact Z27; exact Z53; exact (Z3 fE); exact (Kd.pV_ fE.out).2.1; exact ci_ (aj_.own_ne HI0.out fE.out (by decide)); rintro e Nk ⟨rfl, hi, hb, hk⟩; refine ⟨_, rfl, ?_⟩; refine k6_ (ag_.blk hk (zo_ cA) gC.out (by simp)) (Kd.pX_ (Kd.p8_ (aj_.apart (show aj_ w0 _ g s0_0 Bq Br from Z27) (Z1 db) (by decide)) hk (fun _ h => h.2)) (fun _ h => h.1)) (Kd.pX_ (Kd.p8_ (aj_.apart (show aj_ w0 _ g s0_0 Bq Br from Z27) (Z1 fE) (by decide)) hk (fun _ h => h.2)) (fun _ h => h.1)) (ag_.trans (Z46) hk (.inl rfl)) (hb) (hi) ?_; clear cA db fE HK HB HI0; intro cA db fE HK HB HI0; (try clear hb hk hi)) | ((with_reducible refine au_ (N := 19) rfl ?_); refine lu_ (Kd.int .i64) 3 19 ([1, 2, 3, 4, 10] : List Int) [.int .i64 1, .int .i64 2, .int .i64 3, .int .i64 4, .int .i64 10] (aH_.one (show Kd.M (Kd.int .i64) _ _ _ 1 [.int .i64 1] from rfl) (aH_.one (show Kd.M (Kd.int .i64) _ _ _ 2 [.int .i64 2] from rfl) (aH_.one (show Kd.M (Kd.int .i64) _ _ _ 3 [.int .i64 3] from rfl) (aH_.one (show Kd.M (Kd.int .i64) _ _ _ 4 [.int .i64 4] from rfl) (aH_.one (show Kd.M (Kd.int .i64) _ _ _ 10 [.int .i64 10] from rfl) (aH_.none _ _)))))) ?_; intro v223 Jd ho21 hb hg_ hnew_; clear hg_ hnew_; (first | rw [← Gb.out] at ho21 | (simp only [Int.reduceToNat] at ho21; rw [← Gb.out] at ho21)); refine k7_ (We_ db ho21) (We_ fE ho21) (Kd.pY_ (Kd.p3_ (Kd.p3_ ho21 (Yd_ db)) (Yd_ fE)) (a9_ (w := w) (g := g) (row := none) (Z46))) (aj_.below (Z27) hb) (Ye_ cA) (ag_.trans (Z46) (ag_.of_below hb g none) (.inl rfl)) (aq_ (Z53) hb) ?_; clear db fE HI0 cA HK HB; intro db fE ov HI0 cA HK HB; clear hb ho21; obtain ⟨Jm, yz, xd⟩ := Kd.pW_ ov.out; subst xd) | ((with_reducible refine ae_ (f := 75) rfl ?_); refine gl_ 20 Tryz.func75 #[.pointer (some ⟨g, 0, none⟩), .slice Jm I4.length yz] ?_; (with_reducible refine (aY_.calls g s0_0 ya yb _ _ I4 MQ t226 nP w0 _ ?_ ?_ ?_ ?_ ?_ A7.out).mono ?_); exact Z27; exact Z53; exact (Z3 ov); exact (Kd.pV_ ov.out).2.1; exact ci_ (aj_.own_ne HI0.out ov.out (by decide)); rintro e Dp ⟨rfl, hi, hb, hk⟩; refine ⟨_, rfl, ?_⟩; refine k7_ (ag_.blk hk (zo_ cA) gC.out (by simp)) (Kd.pX_ (Kd.p8_ (aj_.apart (show aj_ w0 _ g s0_0 ya yb from Z27) (Z1 db) (by decide)) hk (fun _ h => h.2)) (fun _ h => h.1)) (Kd.pX_ (Kd.p8_ (aj_.apart (show aj_ w0 _ g s0_0 ya yb from Z27) (Z1 fE) (by decide)) hk (fun _ h => h.2)) (fun _ h => h.1)) (Kd.pX_ (Kd.p8_ (aj_.apart (show aj_ w0 _ g s0_0 ya yb from Z27) (Z1 ov) (by decide)) hk (fun _ h => h.2)) (fun _ h => h.1)) (ag_.trans (Z46) hk (.inl rfl)) (hb) (hi) ?_; clear cA db fE ov HK HB HI0; intro cA db fE ov HK HB HI0; (try clear hb hk hi); have hnb24 := gC.out; have hnc24 := wa.out; obtain ⟨jP, jQ, hcz25_2, jR, jS, hfz25_2⟩ := bt_ (w := Dp) cA.out))
 refine bodyPost_ret (results_cell_row rfl _ _ gM 61 #[.int .i64 Bs, .int .i64 t7, .int .i64 (wrap64 (t7 + MQ))] (0, 0) _ rfl (by (with_reducible repeat (first | refine aG_ ?_ _ | refine ax_ ?_ | refine aF_ ?_ _)); refine bb_ (cs := #[.int .i64 Bs, .int .i64 t7, .int .i64 0]) ?_ 2 _ rfl; (with_reducible repeat (first | refine aG_ ?_ _ | refine ax_ ?_ | refine aF_ ?_ _)); refine bb_ (cs := #[.int .i64 Bs, .int .i64 0, .int .i64 0]) ?_ 1 _ rfl; (with_reducible repeat (first | refine aG_ ?_ _ | refine ax_ ?_ | refine aF_ ?_ _)); refine bb_ (cs := #[.int .i64 0, .int .i64 0, .int .i64 0]) ?_ 0 _ rfl; (with_reducible repeat (first | refine aG_ ?_ _ | refine ax_ ?_ | refine aF_ ?_ _)); exact cA.out) Tryz.underlying61 rfl (by kernel_rfl)) rfl ?_
 exact ⟨Z9, Z27, Z53, Z46⟩
mutual
def ak_.l0 : Nat → List (S61) → List Int → Int → Int → Option ((List (S61)) × Int × Int)
 | 0, _, _, _, _ => none
 | k + 1, x3, bC, bX, cj => if (x3.length : Int) < 60 then ((ar_.f bC bX cj 5).bind fun Bt => (if x3.length < 5864062014805 then (ak_.l0 k (x3 ++ [(⟨3 * ((x3.length : Int) % 5), wrap64 (6 * (wrap64 ((x3.length : Int) / 5))), wrap64 ((wrap64 ((wrap64 (6 * (wrap64 ((x3.length : Int) / 5)))) + 1)) + Bt.1)⟩ : S61)]) bC Bt.2.1 Bt.2.2) else (none))) else (some (x3, bX, cj))
def ak_.l1 : Nat → List (S61) → Int → Int → List Int → Int → Int → Option ((List (S61)) × Int × Int)
 | 0, _, _, _, _, _, _ => none
 | k + 1, x3, x5, x6, bC, bX, cj => if (x3.length : Int) < x5 then (ak_.j2 k x3 x5 x6 (decide (x6 < 60)) bC bX cj) else (ak_.j2 k x3 x5 x6 false bC bX cj)
def ak_.j2 : Nat → List (S61) → Int → Int → Bool → List Int → Int → Int → Option ((List (S61)) × Int × Int)
 | 0, _, _, _, _, _, _, _ => none
 | k + 1, x3, x5, x6, x42, bC, bX, cj => if x42 = true then ((bL_.f bC bX cj).bind fun ow => ((a8_.f k x3 ow.1 ow.2.1 ow.2.2.1).bind fun Gc => (if Gc.2 = true then (ak_.l1 k Gc.1 x5 (wrap64 (x6 + 1)) bC ow.2.2.2.1 ow.2.2.2.2) else (ak_.l1 k x3 x5 (wrap64 (x6 + 1)) bC ow.2.2.2.1 ow.2.2.2.2)))) else (some (x3, bX, cj))
end
def ak_.f (k : Nat) (s0_0 : List Int) (s0_1 : Int) (s0_2 : Int) : Option ((List (S61)) × Int × Int) := (bw_.f s0_0 s0_1 s0_2 24).bind fun ii => (if ii.1 = true then (ak_.l0 k ([] : List (S61)) s0_0 ii.2.1 ii.2.2) else ((ar_.f s0_0 ii.2.1 ii.2.2 9).bind fun ox => (ak_.l1 k ([] : List (S61)) ox.1 0 s0_0 ox.2.1 ox.2.2)))
theorem ak_.mono_l : ∀ k, (∀ y0 y1 y2 y3, LeO (ak_.l0 k y0 y1 y2 y3) (ak_.l0 (k + 1) y0 y1 y2 y3)) ∧ (∀ y0 y1 y2 y3 y4 y5, LeO (ak_.l1 k y0 y1 y2 y3 y4 y5) (ak_.l1 (k + 1) y0 y1 y2 y3 y4 y5)) ∧ (∀ y0 y1 y2 y3 y4 y5 y6, LeO (ak_.j2 k y0 y1 y2 y3 y4 y5 y6) (ak_.j2 (k + 1) y0 y1 y2 y3 y4 y5 y6))
 | 0 => ⟨fun _ _ _ _ r h => by simp [ak_.l0] at h, fun _ _ _ _ _ _ r h => by simp [ak_.l1] at h, fun _ _ _ _ _ _ _ r h => by simp [ak_.j2] at h⟩
 | k + 1 => by
  obtain ⟨ih0, ih1, ih2⟩ := ak_.mono_l k
  refine ⟨?_, ?_, ?_⟩
  ·intro y0 y1 y2 y3
   unfold ak_.l0
   exact ji_
  ·intro y0 y1 y2 y3 y4 y5
   unfold ak_.l1
   exact ji_
  intro y0 y1 y2 y3 y4 y5 y6
  unfold ak_.j2
  exact ji_
theorem ak_.mono : ∀ a0 a1 a2 k, LeO (ak_.f k a0 a1 a2) (ak_.f (k + 1) a0 a1 a2) := by
 intro a0 a1 a2 k
 obtain ⟨ih0, ih1, ih2⟩ := ak_.mono_l k
 unfold ak_.f
 exact ji_
set_option maxHeartbeats 8000000 in
set_option maxRecDepth 100000 in
theorem ak_.calls (k : Nat) (g : Nat) (s0_0 : List Int) (s0_1 : Int) (s0_2 : Int) (r1 : List (S61)) (r2 : Int) (r3 : Int) (w0 w : World) (hI : aj_ w0 w g s0_0 s0_1 s0_2) (hB : Below w0.heap.size w0 w) (h : ak_.f k s0_0 s0_1 s0_2 = some (r1, r2, r3)) :
  Calls Tryz.prog 55 #[.pointer (some ⟨g, 0, none⟩)] w fun e w' => ∃ v0_ : Value, e = .returned (v0_) ∧ Kd.R k61 61 w' w.heap.size (fun _ => True) v0_ r1 ∧ aj_ w0 w' g s0_0 r2 r3 ∧ Below w0.heap.size w0 w' ∧ ag_ w w' g none := by
 have hu61 := Tryz.underlying61
 have HI0 := aa_.mk hI
 have HK := aa_.mk (ag_.refl w g none)
 have HL := aa_.mk hB.size
 clear hI
 have HW0 := aa_.mk hB.size
 have HB := aa_.mk hB
 clear hB
 have H := h; unfold ak_.f at H
 clear h
 replace H := bd_ H; obtain ⟨⟨t228, CW, CX⟩, A2, H⟩ := H
 (try dsimp only at H)
 replace H := it_ H; obtain ⟨rfl, H⟩ | ⟨rfl, H⟩ := H
 ·have H' := aa_.mk H
  clear H
  go_enter Tryz.func55, Tryz.ntmps55
  go_wp2_with (((with_reducible refine ae_ (f := 54) rfl ?_); refine gl_ 10 Tryz.func54 #[.pointer (some ⟨g, 0, none⟩), .int .i64 24] ?_; (with_reducible refine (bw_.calls g s0_0 s0_1 s0_2 24 true CW CX w0 _ ?_ ?_ A2.out).mono ?_); exact (Z4 HI0); exact Z7; rintro e w4 ⟨rfl, hi, hb, hk⟩; refine ⟨_, rfl, ?_⟩; refine k3_ Wk_ (hb) (hi) ?_; clear HK HB HI0; intro HK HB HI0; (try clear hb hk hi)))
  (try simp only [Act.put, List.setIfInBounds_toArray, List.set_cons_zero, List.set_cons_succ])
  go_loopg [3] k (fun kq v3 w' => ∃ (aN : List (S61)) (bA : Int) (bB : Int), aa_ (ak_.l0 kq aN s0_0 bA bB = some (r1, r2, r3)) ∧ aa_ (kq ≤ k) ∧ aa_ (Kd.R k61 61 w' w.heap.size (fun _ => True) v3 aN) ∧ aa_ (aj_ w0 w' g s0_0 bA bB) ∧ aa_ (ag_ w w' g none) ∧ aa_ (Below w0.heap.size w0 w'))
  case atStart => exact ⟨(([] : List (S61))), (CW), (CX), H', ⟨Nat.le_refl _⟩, ⟨Z17⟩, ⟨Z4 HI0⟩, ⟨Z6⟩, ⟨Z7⟩⟩
  case round =>
   clear H'
   obtain ⟨aN, bA, bB, HA, HK1, aA, HI0, HK, HB⟩ := hrel
   cases gk with
   | zero => exact absurd HA.out (by simp [ak_.l0])
   | succ k1 =>
    have H := HA.out
    clear HA
    simp only [ak_.l0] at H
    replace H := iw_ H; obtain ⟨c5, H⟩ | ⟨c5, H⟩ := H
    ·have dp : decide ((aN.length : Int) < 60) = true := decide_eq_true c5
     have uQ : decide (aN.length < 60) = true := decide_eq_true (by omega)
     clear c5
     replace H := bd_ H; obtain ⟨⟨e6, I5, I6⟩, A6, H⟩ := H
     (try dsimp only at H)
     replace H := ia_ H; obtain ⟨LMc7, H⟩ := H
     generalize e_ : ((aN ++ [(⟨3 * ((aN.length : Int) % 5), wrap64 (6 * (wrap64 ((aN.length : Int) / 5))), wrap64 ((wrap64 ((wrap64 (6 * (wrap64 ((aN.length : Int) / 5)))) + 1)) + e6)⟩ : S61)]) : List (S61)) = MR at H
     have Ny234 := aa_.mk e_.symm; clear e_
     have H' := aa_.mk H
     clear H
     obtain ⟨BK, BL, NC⟩ := Kd.pW_ aA.out
     subst NC
     go_wp2_with (first | ((with_reducible refine ae_ (f := 39) rfl ?_); refine gl_ 27 Tryz.func39 #[.pointer (some ⟨g, 0, none⟩), .int .i64 5] ?_; (with_reducible refine (ar_.calls g s0_0 bA bB 5 e6 I5 I6 w0 _ ?_ ?_ A6.out).mono ?_); exact (Z4 HI0); exact Z7; rintro e w9 ⟨rfl, hi, hb, hk⟩; refine ⟨_, rfl, ?_⟩; refine k4_ (Wm_ aA) Wk_ (hb) (hi) ?_; clear aA HK HB HI0; intro aA HK HB HI0; (try clear hb hk hi)) | ((with_reducible refine bh_ (b := .append) (xs := #[.tmp 18, .tmp 30]) rfl ?_); at_builtin; refine fy_ w.heap.size (.tmp 18) (.tmp 30) (.slice BK aN.length BL) aN (⟨3 * ((aN.length : Int) % 5), wrap64 (6 * (wrap64 ((aN.length : Int) / 5))), wrap64 ((wrap64 ((wrap64 (6 * (wrap64 ((aN.length : Int) / 5)))) + 1)) + e6)⟩ : S61) [.int .i64 (3 * ((aN.length : Int) % 5)), .int .i64 (wrap64 (6 * (wrap64 ((aN.length : Int) / 5)))), .int .i64 (wrap64 ((wrap64 ((wrap64 (6 * (wrap64 ((aN.length : Int) / 5)))) + 1)) + e6))] (fun _ => True) rfl rfl ?aP ?aF ?aO (Below.refl _ _) ?aS ?aL ?_; (case aP => exact b9_ _ _ _ (⟨3 * ((aN.length : Int) % 5), wrap64 (6 * (wrap64 ((aN.length : Int) / 5))), wrap64 ((wrap64 ((wrap64 (6 * (wrap64 ((aN.length : Int) / 5)))) + 1)) + e6)⟩ : S61)); (case aF => exact (fun _ _ => trivial)); (case aO => exact (Z1 aA)); (case aS => exact (a9_ (w := w) (g := g) (row := none) (Z6))); (case aL => exact Z91 LMc7); intro v235 jc ho hb hg hat; rw [← Ny234.out] at ho; refine k4_ (aj_.grown (Z4 HI0) hg (aj_.own_ne HI0.out aA.out (by decide))) (cN_ (Z7) HL.out hb) (ag_.trans (Z6) (ag_.of_grown hg g) (Kd.qk_ aA.out)) (ho) ?_; clear HI0 HB HK aA; intro HI0 HB HK fo; clear ho hb hg hat))
     go_roundg k1
     case measure => have := HK1.out; omega
     case rel => exact ⟨(MR), (I5), (I6), H', ⟨Z91 HK1⟩, ⟨Z1 fo⟩, ⟨Z4 HI0⟩, ⟨Z6⟩, ⟨Z7⟩⟩
    have dp : decide ((aN.length : Int) < 60) = false := decide_eq_false c5
    have uQ : decide (aN.length < 60) = false := decide_eq_false (by omega)
    clear c5
    obtain ⟨rfl, rfl, rfl⟩ := sq_ H; clear H
    obtain ⟨Ao11, co11, CY⟩ := Kd.pW_ aA.out
    subst CY
    go_wp2
    go_ret
    exact ⟨_, Z9, Z1 aA, Z4 HI0, Z7, Z6⟩
 replace H := bd_ H; obtain ⟨⟨mJ, mK, MS⟩, Nv, H⟩ := H
 (try dsimp only at H)
 have H' := aa_.mk H
 clear H
 go_enter Tryz.func55, Tryz.ntmps55
 go_wp2_with (first | ((with_reducible refine ae_ (f := 54) rfl ?_); refine gl_ 10 Tryz.func54 #[.pointer (some ⟨g, 0, none⟩), .int .i64 24] ?_; (with_reducible refine (bw_.calls g s0_0 s0_1 s0_2 24 false CW CX w0 _ ?_ ?_ A2.out).mono ?_); exact (Z4 HI0); exact Z7; rintro e oE ⟨rfl, hi, hb, hk⟩; refine ⟨_, rfl, ?_⟩; refine k3_ Wk_ (hb) (hi) ?_; clear HK HB HI0; intro HK HB HI0; (try clear hb hk hi)) | ((with_reducible refine ae_ (f := 39) rfl ?_); refine gl_ 34 Tryz.func39 #[.pointer (some ⟨g, 0, none⟩), .int .i64 9] ?_; (with_reducible refine (ar_.calls g s0_0 CW CX 9 mJ mK MS w0 _ ?_ ?_ Nv.out).mono ?_); exact (Z4 HI0); exact Z7; rintro e xg ⟨rfl, hi, hb, hk⟩; refine ⟨_, rfl, ?_⟩; refine k3_ Wk_ (hb) (hi) ?_; clear HK HB HI0; intro HK HB HI0; (try clear hb hk hi)))
 (try simp only [Act.put, List.setIfInBounds_toArray, List.set_cons_zero, List.set_cons_succ])
 go_loopg [3, 6] k (fun kq v3 v6 w' => ∃ (aN : List (S61)) (br : Int) (bA : Int) (bB : Int), v6 = .int .i64 br ∧ aa_ (ak_.l1 kq aN mJ br s0_0 bA bB = some (r1, r2, r3)) ∧ aa_ (kq ≤ k) ∧ aa_ (Kd.R k61 61 w' w.heap.size (fun _ => True) v3 aN) ∧ aa_ (aj_ w0 w' g s0_0 bA bB) ∧ aa_ (ag_ w w' g none) ∧ aa_ (Below w0.heap.size w0 w'))
 case atStart => exact ⟨(([] : List (S61))), (0), (mK), (MS), (Z14), H', ⟨Nat.le_refl _⟩, ⟨Z17⟩, ⟨Z4 HI0⟩, ⟨Z6⟩, ⟨Z7⟩⟩
 case round =>
  clear H'
  obtain ⟨aN, br, bA, bB, rfl, HA, HK1, aA, HI0, HK, HB⟩ := hrel
  cases gk with
  | zero => exact absurd HA.out (by simp [ak_.l1])
  | succ k1 =>
   have H := HA.out
   clear HA
   simp only [ak_.l1] at H
   have HC15 := aa_.mk H
   clear H
   go_upto_region 9 with (fail)
   go_cut [42] (fun NG wc => ∃ (kq : Nat) (qt : Bool), NG = .bool qt ∧ aa_ (ak_.j2 kq aN mJ br qt s0_0 bA bB = some (r1, r2, r3)) ∧ aa_ (kq ≤ k1) ∧ aa_ (Kd.R k61 61 wc w.heap.size (fun _ => True) u3 aN) ∧ aa_ (aj_ w0 wc g s0_0 bA bB) ∧ aa_ (ag_ w wc g none) ∧ aa_ (Below w0.heap.size w0 wc))
   case first =>
    have H := HC15.out
    clear HC15
    replace H := iv_ H; obtain ⟨fQ, H⟩ | ⟨fQ, H⟩ := H
    ·(first | rw [fQ] | (simp only [bA_, ch_]; rw [fQ]) | skip)
     have H' := aa_.mk H
     clear H
     obtain ⟨z6, z7, eo17⟩ := Kd.pW_ aA.out
     subst eo17
     go_wp2
     go_meet
     case rel => exact ⟨_, (decide (br < 60)), (Z14), H', ⟨eL_ HK1⟩, ⟨Z1 aA⟩, ⟨Z4 HI0⟩, ⟨Z6⟩, ⟨Z7⟩⟩
    (first | rw [fQ] | (simp only [bA_, ch_]; rw [fQ]) | skip)
    have H' := aa_.mk H
    clear H
    obtain ⟨BW, BX, uD⟩ := Kd.pW_ aA.out
    subst uD
    go_wp2
    go_meet
    case rel => exact ⟨_, (false), (Z14), H', ⟨eL_ HK1⟩, ⟨Z1 aA⟩, ⟨Z4 HI0⟩, ⟨Z6⟩, ⟨Z7⟩⟩
   case rest =>
    clear HC15
    obtain ⟨kq, qt, rfl, HA, CZ, aA, HI0, HK, HB⟩ := hcut
    cases kq with
    | zero => exact absurd HA.out (by simp [ak_.j2])
    | succ C0 =>
     have H := HA.out
     clear HA
     simp only [ak_.j2] at H
     replace H := it_ H; obtain ⟨rfl, H⟩ | ⟨rfl, H⟩ := H
     ·replace H := bd_ H; obtain ⟨⟨yc, au, yd, C1, C2⟩, b5, H⟩ := H
      (try dsimp only at H)
      replace H := bd_ H; obtain ⟨⟨I7, t248⟩, gL, H⟩ := H
      (try dsimp only at H)
      replace H := it_ H; obtain ⟨rfl, H⟩ | ⟨rfl, H⟩ := H
      ·have H' := aa_.mk H
       clear H
       go_wp2_with (first | ((with_reducible refine ae_ (f := 86) rfl ?_); refine gl_ 48 Tryz.func86 #[.pointer (some ⟨g, 0, none⟩)] ?_; (with_reducible refine (bL_.calls g s0_0 bA bB yc au yd C1 C2 w0 _ ?_ ?_ b5.out).mono ?_); exact (Z4 HI0); exact Z7; rintro e Dp ⟨rfl, hi, hb, hk⟩; refine ⟨_, rfl, ?_⟩; refine k4_ (Wm_ aA) Wk_ (hb) (hi) ?_; clear aA HK HB HI0; intro aA HK HB HI0; (try clear hb hk hi); obtain ⟨Hd, He, Hf⟩ := Kd.pW_ aA.out; subst Hf) | ((with_reducible refine ae_ (f := 56) rfl ?_); refine gl_ 49 Tryz.func56 #[.slice Hd aN.length He, .agg #[.int .i64 yc, .int .i64 au, .int .i64 yd]] ?_; (with_reducible refine (a8_.calls C0 _ _ aN yc au yd I7 true _ ?_ ?_ gL.out).mono ?_); exact (Z3 aA); exact (Kd.pV_ aA.out).2.1; rintro e Dq ⟨v246, rfl, ho0, hb⟩; refine ⟨_, rfl, ?_⟩; refine k5_ (Yb_ aA) (Kd.pY_ (Kd.p3_ ho0 (Yd_ aA)) (a9_ (w := w) (g := g) (row := none) (Z6))) (aj_.below (Z4 HI0) hb) Wl_ (aq_ (Z7) hb) ?_; clear aA HI0 HK HB; intro aA Gd HI0 HK HB; (try clear hb ho0)))
       go_roundg C0
       case measure => have := HK1.out; have := CZ.out; omega
       case rel => exact ⟨(I7), (wrap64 (br + 1)), (C1), (C2), (Z14), H', ⟨by have := HK1.out; have := CZ.out; omega⟩, ⟨Z38 Gd⟩, ⟨Z4 HI0⟩, ⟨Z6⟩, ⟨Z7⟩⟩
      have H' := aa_.mk H
      clear H
      go_wp2_with (first | ((with_reducible refine ae_ (f := 86) rfl ?_); refine gl_ 48 Tryz.func86 #[.pointer (some ⟨g, 0, none⟩)] ?_; (with_reducible refine (bL_.calls g s0_0 bA bB yc au yd C1 C2 w0 _ ?_ ?_ b5.out).mono ?_); exact (Z4 HI0); exact Z7; rintro e GT ⟨rfl, hi, hb, hk⟩; refine ⟨_, rfl, ?_⟩; refine k4_ (Wm_ aA) Wk_ (hb) (hi) ?_; clear aA HK HB HI0; intro aA HK HB HI0; (try clear hb hk hi); obtain ⟨Ik, Cv, Il⟩ := Kd.pW_ aA.out; subst Il) | ((with_reducible refine ae_ (f := 56) rfl ?_); refine gl_ 49 Tryz.func56 #[.slice Ik aN.length Cv, .agg #[.int .i64 yc, .int .i64 au, .int .i64 yd]] ?_; (with_reducible refine (a8_.calls C0 _ _ aN yc au yd I7 false _ ?_ ?_ gL.out).mono ?_); exact (Z3 aA); exact (Kd.pV_ aA.out).2.1; rintro e i3 ⟨v246, rfl, ho0, hb⟩; refine ⟨_, rfl, ?_⟩; refine k5_ (Yb_ aA) (Kd.pY_ (Kd.p3_ ho0 (Yd_ aA)) (a9_ (w := w) (g := g) (row := none) (Z6))) (aj_.below (Z4 HI0) hb) Wl_ (aq_ (Z7) hb) ?_; clear aA HI0 HK HB; intro aA Gd HI0 HK HB; (try clear hb ho0)))
      go_roundg C0
      case measure => have := HK1.out; have := CZ.out; omega
      case rel => exact ⟨(aN), (wrap64 (br + 1)), (C1), (C2), (Z14), H', ⟨by have := HK1.out; have := CZ.out; omega⟩, ⟨Z38 aA⟩, ⟨Z4 HI0⟩, ⟨Z6⟩, ⟨Z7⟩⟩
     obtain ⟨rfl, rfl, rfl⟩ := sq_ H; clear H
     go_wp2
     go_ret
     exact ⟨_, Z9, Z1 aA, Z4 HI0, Z7, Z6⟩
theorem oN_ {p : Prop} (h : p := by repeat' first | (with_reducible first | apply ih0 | apply ih0 | apply ak_.mono | apply ak_.mono | exact LeO.refl _ | exact LeO.none _ | refine LeO.ite ?_ ?_ | refine LeO.bind ?_ (fun _ => ?_)) | exact LeO.none _ | refine LeO.ite ?_ ?_ | refine LeO.bind ?_ (fun _ => ?_)) : p := h
def b4_.f (s0_0 : List Int) (s0_1 : Int) (s0_2 : Int) : Option (Int × Int × Int × Int × Int) := (bL_.f s0_0 s0_1 s0_2).bind fun cR => ((ar_.f s0_0 cR.2.2.2.1 cR.2.2.2.2 24).bind fun dl => (if dl.1 = 0 then ((aY_.f s0_0 dl.2.1 dl.2.2 (([(-1), 19, 20] : List Int))).bind fun fp => (some (fp.1, cR.2.1, cR.2.2.1, fp.2.1, fp.2.2))) else (if dl.1 = 1 then ((aY_.f s0_0 dl.2.1 dl.2.2 (([(-1), cR.2.2.1] : List Int))).bind fun ij => (some (cR.1, ij.1, cR.2.2.1, ij.2.1, ij.2.2))) else (if dl.1 = 2 then ((aY_.f s0_0 dl.2.1 dl.2.2 (([cR.2.1, 2000, 2001] : List Int))).bind fun ik => (some (cR.1, cR.2.1, ik.1, ik.2.1, ik.2.2))) else (some (cR.1, cR.2.1, cR.2.2.1, dl.2.1, dl.2.2))))))
set_option maxHeartbeats 8000000 in
set_option maxRecDepth 100000 in
theorem b4_.calls (g : Nat) (s0_0 : List Int) (s0_1 : Int) (s0_2 : Int) (r1 : Int) (r2 : Int) (r3 : Int) (r4 : Int) (r5 : Int) (w0 w : World) (hI : aj_ w0 w g s0_0 s0_1 s0_2) (hB : Below w0.heap.size w0 w) (h : b4_.f s0_0 s0_1 s0_2 = some (r1, r2, r3, r4, r5)) :
  Calls Tryz.prog 87 #[.pointer (some ⟨g, 0, none⟩)] w fun e w' => e = .returned (.agg #[.int .i64 r1, .int .i64 r2, .int .i64 r3]) ∧ aj_ w0 w' g s0_0 r4 r5 ∧ Below w0.heap.size w0 w' ∧ ag_ w w' g none := by
 have hu61 := Tryz.underlying61
 have HI0 := aa_.mk hI
 have HK := aa_.mk (ag_.refl w g none)
 have HL := aa_.mk hB.size
 clear hI
 have HW0 := aa_.mk hB.size
 have HB := aa_.mk hB
 clear hB
 have H := h; unfold b4_.f at H
 clear h
 replace H := bd_ H; obtain ⟨⟨e5, eA, fN, oB, oC⟩, A2, H⟩ := H
 (try dsimp only at H)
 replace H := bd_ H; obtain ⟨⟨gD, ma, mb⟩, A3, H⟩ := H
 (try dsimp only at H)
 replace H := ic_ H; obtain ⟨da, c4b1, H⟩ | ⟨da, c4b1, c4, H⟩ := H
 ·generalize e_ : ((([(-1), 19, 20] : List Int)) : List Int) = xi at H
  have oW := aa_.mk e_.symm; clear e_
  replace H := bd_ H; obtain ⟨⟨pC, xj, t264⟩, A5, H⟩ := H
  (try dsimp only at H)
  simp only [Option.some.injEq, Prod.mk.injEq] at H
  obtain ⟨rfl, rfl, rfl, rfl, rfl⟩ := H
  go_enter Tryz.func87, Tryz.ntmps87
  go_wp2_with (first | ((with_reducible refine au_ (N := 2) rfl ?_); refine bv_ 2 61 #[.int .i64 0, .int .i64 0, .int .i64 0] ?_; intro bK hg w6 hbox hb; refine k8_ (aj_.below (Z4 HI0) hb) Wl_ (aq_ (Z7) hb) (hbox) ((Z88 : w.heap.size ≤ bK)) ((Nat.le_trans HW0.out (Z88 : w.heap.size ≤ bK) : w0.heap.size ≤ bK)) ((i8_ : g ≠ bK)) ((jl_ : bK ≠ g)) ?_; clear HI0 HK HB; intro HI0 HK HB bm qG qF eB cu; clear hb hbox hg) | ((with_reducible refine ae_ (f := 86) rfl ?_); refine gl_ 5 Tryz.func86 #[.pointer (some ⟨g, 0, none⟩)] ?_; (with_reducible refine (bL_.calls g s0_0 s0_1 s0_2 e5 eA fN oB oC w0 _ ?_ ?_ A2.out).mono ?_); exact Z28; exact Z63; rintro e w7 ⟨rfl, hi, hb, hk⟩; refine ⟨_, rfl, ?_⟩; refine k4_ (ag_.blk hk (zo_ bm) cu.out (by simp)) (ag_.trans (Z35) hk (.inl rfl)) (hb) (hi) ?_; clear bm HK HB HI0; intro bm HK HB HI0; (try clear hb hk hi)) | ((with_reducible refine au_ (N := 3) rfl ?_); refine bv_ 3 61 #[.int .i64 0, .int .i64 0, .int .i64 0] ?_; intro b9 hg w8 hbox hb; refine kF_ (aj_.below (Z28) hb) (Ye_ bm) (ag_.trans (Z35) (ag_.of_below hb g none) (.inl rfl)) (aq_ (Z63) hb) (hbox) ((gw_ : w.heap.size ≤ b9)) ((Nat.le_trans HW0.out (gw_ : w.heap.size ≤ b9) : w0.heap.size ≤ b9)) ((kr_ : bK ≠ b9)) ((lc_ : b9 ≠ bK)) ((kR_ : g ≠ b9)) ((kW_ : b9 ≠ g)) ?_; clear HI0 bm HK HB; intro HI0 bm HK HB bQ wb v2 cl ef ff dc; clear hb hbox hg; have hnb9 := ef.out; have hnc9 := cl.out; have hnb10 := dc.out; have hnc10 := ff.out; obtain ⟨fj, gp, wg, fk, gq, wh⟩ := bt_ (w := w8) bQ.out) | ((with_reducible refine ae_ (f := 39) rfl ?_); refine gl_ 7 Tryz.func39 #[.pointer (some ⟨g, 0, none⟩), .int .i64 24] ?_; (with_reducible refine (ar_.calls g s0_0 oB oC 24 gD ma mb w0 _ ?_ ?_ A3.out).mono ?_); exact Z20; exact Z29; rintro e qT ⟨rfl, hi, hb, hk⟩; refine ⟨_, rfl, ?_⟩; refine k5_ (ag_.blk hk (g' := bK) (o := .cells #[.int .i64 0, .int .i64 0, .int .i64 0] 61 (0, 0)) (Z57) cu.out (by simp)) (ag_.blk hk (g' := b9) (o := .cells #[.int .i64 e5, .int .i64 eA, .int .i64 fN] 61 (0, 0)) (Z37 bQ) dc.out (by simp)) (ag_.trans (Z26) hk (.inl rfl)) (hb) (hi) ?_; clear bm bQ HK HB HI0; intro bm bQ HK HB HI0; (try clear hb hk hi)) | ((with_reducible refine au_ (N := 11) rfl ?_); refine lu_ (Kd.int .i64) 3 11 ([(-1), 19, 20] : List Int) [.int .i64 (-1), .int .i64 19, .int .i64 20] (aH_.one (show Kd.M (Kd.int .i64) _ _ _ (-1) [.int .i64 (-1)] from rfl) (aH_.one (show Kd.M (Kd.int .i64) _ _ _ 19 [.int .i64 19] from rfl) (aH_.one (show Kd.M (Kd.int .i64) _ _ _ 20 [.int .i64 20] from rfl) (aH_.none _ _)))) ?_; intro GH oE ho14 hb hg_ hnew_; clear hg_ hnew_; (first | rw [← oW.out] at ho14 | (simp only [Int.reduceToNat] at ho14; rw [← oW.out] at ho14)); refine k6_ (Kd.pY_ ho14 (a9_ (w := w) (g := g) (row := none) (Z26))) (aj_.below (Z20) hb) (Ye_ bm) (Ye_ bQ) (ag_.trans (Z26) (ag_.of_below hb g none) (.inl rfl)) (aq_ (Z29) hb) ?_; clear HI0 bm bQ HK HB; intro hD HI0 bm bQ HK HB; clear hb ho14; obtain ⟨nG, jG, jH⟩ := Kd.pW_ hD.out; subst jH) | ((with_reducible refine ae_ (f := 75) rfl ?_); refine gl_ 12 Tryz.func75 #[.pointer (some ⟨g, 0, none⟩), .slice nG xi.length jG] ?_; (with_reducible refine (aY_.calls g s0_0 ma mb _ _ xi pC xj t264 w0 _ ?_ ?_ ?_ ?_ ?_ A5.out).mono ?_); exact Z20; exact Z29; exact (Z3 hD); exact (Kd.pV_ hD.out).2.1; exact ci_ (aj_.own_ne HI0.out hD.out (by decide)); rintro e lR ⟨rfl, hi, hb, hk⟩; refine ⟨_, rfl, ?_⟩; refine k6_ (ag_.blk hk (zo_ bm) cu.out (by simp)) (ag_.blk hk (zo_ bQ) dc.out (by simp)) (Kd.pX_ (Kd.p8_ (aj_.apart (show aj_ w0 _ g s0_0 ma mb from Z20) (Z1 hD) (by decide)) hk (fun _ h => h.2)) (fun _ h => h.1)) (ag_.trans (Z26) hk (.inl rfl)) (hb) (hi) ?_; clear bm bQ hD HK HB HI0; intro bm bQ hD HK HB HI0; (try clear hb hk hi); obtain ⟨pk, pl, hcz17_2, pm, pn, hfz17_2⟩ := bt_ (w := lR) bQ.out; have hnb18 := cu.out; have hnc18 := eB.out; obtain ⟨po, wj, wk, pp, wl, wm⟩ := bt_ (w := lR) bm.out))
  refine bodyPost_ret (results_cell_row rfl _ _ bK 61 #[.int .i64 pC, .int .i64 eA, .int .i64 fN] (0, 0) _ rfl (by (with_reducible repeat (first | refine aG_ ?_ _ | refine ax_ ?_ | refine aF_ ?_ _)); refine bb_ (cs := #[.int .i64 pC, .int .i64 eA, .int .i64 0]) ?_ 2 _ rfl; (with_reducible repeat (first | refine aG_ ?_ _ | refine ax_ ?_ | refine aF_ ?_ _)); refine bb_ (cs := #[.int .i64 pC, .int .i64 0, .int .i64 0]) ?_ 1 _ rfl; (with_reducible repeat (first | refine aG_ ?_ _ | refine ax_ ?_ | refine aF_ ?_ _)); refine bb_ (cs := #[.int .i64 0, .int .i64 0, .int .i64 0]) ?_ 0 _ rfl; (with_reducible repeat (first | refine aG_ ?_ _ | refine ax_ ?_ | refine aF_ ?_ _)); refine c0_ ?_ cl.out _; (with_reducible repeat (first | refine aG_ ?_ _ | refine ax_ ?_ | refine aF_ ?_ _)); exact bm.out) Tryz.underlying61 rfl (by kernel_rfl)) rfl ?_
  exact ⟨Z9, Z20, Z29, Z26⟩
 replace H := ic_ H; obtain ⟨dS, DF, H⟩ | ⟨dS, DF, c20, H⟩ := H
 ·generalize e_ : ((([(-1), fN] : List Int)) : List Int) = I8 at H
  have Ge := aa_.mk e_.symm; clear e_
  replace H := bd_ H; obtain ⟨⟨I9, t269, t270⟩, gL, H⟩ := H
  (try dsimp only at H)
  simp only [Option.some.injEq, Prod.mk.injEq] at H
  obtain ⟨rfl, rfl, rfl, rfl, rfl⟩ := H
  go_enter Tryz.func87, Tryz.ntmps87
  go_wp2_with (first | ((with_reducible refine au_ (N := 2) rfl ?_); refine bv_ 2 61 #[.int .i64 0, .int .i64 0, .int .i64 0] ?_; intro bK hg jE hbox hb; refine k8_ (aj_.below (Z4 HI0) hb) Wl_ (aq_ (Z7) hb) (hbox) ((Z88 : w.heap.size ≤ bK)) ((Nat.le_trans HW0.out (Z88 : w.heap.size ≤ bK) : w0.heap.size ≤ bK)) ((i8_ : g ≠ bK)) ((jl_ : bK ≠ g)) ?_; clear HI0 HK HB; intro HI0 HK HB bm qG qF eB cu; clear hb hbox hg) | ((with_reducible refine ae_ (f := 86) rfl ?_); refine gl_ 5 Tryz.func86 #[.pointer (some ⟨g, 0, none⟩)] ?_; (with_reducible refine (bL_.calls g s0_0 s0_1 s0_2 e5 eA fN oB oC w0 _ ?_ ?_ A2.out).mono ?_); exact Z28; exact Z63; rintro e Dp ⟨rfl, hi, hb, hk⟩; refine ⟨_, rfl, ?_⟩; refine k4_ (ag_.blk hk (zo_ bm) cu.out (by simp)) (ag_.trans (Z35) hk (.inl rfl)) (hb) (hi) ?_; clear bm HK HB HI0; intro bm HK HB HI0; (try clear hb hk hi)) | ((with_reducible refine au_ (N := 3) rfl ?_); refine bv_ 3 61 #[.int .i64 0, .int .i64 0, .int .i64 0] ?_; intro b9 hg cP hbox hb; refine kF_ (aj_.below (Z28) hb) (Ye_ bm) (ag_.trans (Z35) (ag_.of_below hb g none) (.inl rfl)) (aq_ (Z63) hb) (hbox) ((gw_ : w.heap.size ≤ b9)) ((Nat.le_trans HW0.out (gw_ : w.heap.size ≤ b9) : w0.heap.size ≤ b9)) ((kr_ : bK ≠ b9)) ((lc_ : b9 ≠ bK)) ((kR_ : g ≠ b9)) ((kW_ : b9 ≠ g)) ?_; clear HI0 bm HK HB; intro HI0 bm HK HB bQ wb v2 cl ef ff dc; clear hb hbox hg; have hnb25 := ef.out; have hnc25 := cl.out; have hnb26 := dc.out; have hnc26 := ff.out; obtain ⟨hcz27_0, hcz27_1, hcz27_2, hfz27_0, hfz27_1, hfz27_2⟩ := bt_ (w := cP) bQ.out) | ((with_reducible refine ae_ (f := 39) rfl ?_); refine gl_ 7 Tryz.func39 #[.pointer (some ⟨g, 0, none⟩), .int .i64 24] ?_; (with_reducible refine (ar_.calls g s0_0 oB oC 24 gD ma mb w0 _ ?_ ?_ A3.out).mono ?_); exact Z20; exact Z29; rintro e i3 ⟨rfl, hi, hb, hk⟩; refine ⟨_, rfl, ?_⟩; refine k5_ (ag_.blk hk (g' := bK) (o := .cells #[.int .i64 0, .int .i64 0, .int .i64 0] 61 (0, 0)) (Z57) cu.out (by simp)) (ag_.blk hk (g' := b9) (o := .cells #[.int .i64 e5, .int .i64 eA, .int .i64 fN] 61 (0, 0)) (Z37 bQ) dc.out (by simp)) (ag_.trans (Z26) hk (.inl rfl)) (hb) (hi) ?_; clear bm bQ HK HB HI0; intro bm bQ HK HB HI0; (try clear hb hk hi); obtain ⟨hcz29_0, hcz29_1, hcz29_2, hfz29_0, hfz29_1, hfz29_2⟩ := bt_ (w := i3) bQ.out) | ((with_reducible refine au_ (N := 19) rfl ?_); refine lu_ (Kd.int .i64) 3 19 ([(-1), fN] : List Int) [.int .i64 (-1), .int .i64 fN] (aH_.one (show Kd.M (Kd.int .i64) _ _ _ (-1) [.int .i64 (-1)] from rfl) (aH_.one (show Kd.M (Kd.int .i64) _ _ _ fN [.int .i64 fN] from rfl) (aH_.none _ _))) ?_; intro v266 iG ho31 hb hg_ hnew_; clear hg_ hnew_; (first | rw [← Ge.out] at ho31 | (simp only [Int.reduceToNat] at ho31; rw [← Ge.out] at ho31)); refine k6_ (Kd.pY_ ho31 (a9_ (w := w) (g := g) (row := none) (Z26))) (aj_.below (Z20) hb) (Ye_ bm) (Ye_ bQ) (ag_.trans (Z26) (ag_.of_below hb g none) (.inl rfl)) (aq_ (Z29) hb) ?_; clear HI0 bm bQ HK HB; intro oy HI0 bm bQ HK HB; clear hb ho31; obtain ⟨re, jj, nM⟩ := Kd.pW_ oy.out; subst nM) | ((with_reducible refine ae_ (f := 75) rfl ?_); refine gl_ 20 Tryz.func75 #[.pointer (some ⟨g, 0, none⟩), .slice re I8.length jj] ?_; (with_reducible refine (aY_.calls g s0_0 ma mb _ _ I8 I9 t269 t270 w0 _ ?_ ?_ ?_ ?_ ?_ gL.out).mono ?_); exact Z20; exact Z29; exact (Z3 oy); exact (Kd.pV_ oy.out).2.1; exact ci_ (aj_.own_ne HI0.out oy.out (by decide)); rintro e m9 ⟨rfl, hi, hb, hk⟩; refine ⟨_, rfl, ?_⟩; refine k6_ (ag_.blk hk (zo_ bm) cu.out (by simp)) (ag_.blk hk (zo_ bQ) dc.out (by simp)) (Kd.pX_ (Kd.p8_ (aj_.apart (show aj_ w0 _ g s0_0 ma mb from Z20) (Z1 oy) (by decide)) hk (fun _ h => h.2)) (fun _ h => h.1)) (ag_.trans (Z26) hk (.inl rfl)) (hb) (hi) ?_; clear bm bQ oy HK HB HI0; intro bm bQ oy HK HB HI0; (try clear hb hk hi); obtain ⟨hcz34_0, hcz34_1, hcz34_2, hfz34_0, hfz34_1, hfz34_2⟩ := bt_ (w := m9) bQ.out; have hnb35 := cu.out; have hnc35 := eB.out; obtain ⟨na, nb, hcz36_2, nc, ne, hfz36_2⟩ := bt_ (w := m9) bm.out))
  refine bodyPost_ret (results_cell_row rfl _ _ bK 61 #[.int .i64 e5, .int .i64 I9, .int .i64 fN] (0, 0) _ rfl (by (with_reducible repeat (first | refine aG_ ?_ _ | refine ax_ ?_ | refine aF_ ?_ _)); refine bb_ (cs := #[.int .i64 e5, .int .i64 I9, .int .i64 0]) ?_ 2 _ rfl; (with_reducible repeat (first | refine aG_ ?_ _ | refine ax_ ?_ | refine aF_ ?_ _)); refine bb_ (cs := #[.int .i64 e5, .int .i64 0, .int .i64 0]) ?_ 1 _ rfl; (with_reducible repeat (first | refine aG_ ?_ _ | refine ax_ ?_ | refine aF_ ?_ _)); refine bb_ (cs := #[.int .i64 0, .int .i64 0, .int .i64 0]) ?_ 0 _ rfl; (with_reducible repeat (first | refine aG_ ?_ _ | refine ax_ ?_ | refine aF_ ?_ _)); refine c0_ ?_ cl.out _; (with_reducible repeat (first | refine aG_ ?_ _ | refine ax_ ?_ | refine aF_ ?_ _)); exact bm.out) Tryz.underlying61 rfl (by kernel_rfl)) rfl ?_
  exact ⟨Z9, Z20, Z29, Z26⟩
 replace H := ic_ H; obtain ⟨oc, tR, H⟩ | ⟨oc, tR, c37, H⟩ := H
 ·generalize e_ : ((([eA, 2000, 2001] : List Int)) : List Int) = Ja at H
  have Gf := aa_.mk e_.symm; clear e_
  replace H := bd_ H; obtain ⟨⟨MT, t275, t276⟩, A38, H⟩ := H
  (try dsimp only at H)
  simp only [Option.some.injEq, Prod.mk.injEq] at H
  obtain ⟨rfl, rfl, rfl, rfl, rfl⟩ := H
  go_enter Tryz.func87, Tryz.ntmps87
  go_wp2_with (first | ((with_reducible refine au_ (N := 2) rfl ?_); refine bv_ 2 61 #[.int .i64 0, .int .i64 0, .int .i64 0] ?_; intro bK hg yx hbox hb; refine k8_ (aj_.below (Z4 HI0) hb) Wl_ (aq_ (Z7) hb) (hbox) ((Z88 : w.heap.size ≤ bK)) ((Nat.le_trans HW0.out (Z88 : w.heap.size ≤ bK) : w0.heap.size ≤ bK)) ((i8_ : g ≠ bK)) ((jl_ : bK ≠ g)) ?_; clear HI0 HK HB; intro HI0 HK HB bm qG qF eB cu; clear hb hbox hg) | ((with_reducible refine ae_ (f := 86) rfl ?_); refine gl_ 5 Tryz.func86 #[.pointer (some ⟨g, 0, none⟩)] ?_; (with_reducible refine (bL_.calls g s0_0 s0_1 s0_2 e5 eA fN oB oC w0 _ ?_ ?_ A2.out).mono ?_); exact Z28; exact Z63; rintro e Ca ⟨rfl, hi, hb, hk⟩; refine ⟨_, rfl, ?_⟩; refine k4_ (ag_.blk hk (zo_ bm) cu.out (by simp)) (ag_.trans (Z35) hk (.inl rfl)) (hb) (hi) ?_; clear bm HK HB HI0; intro bm HK HB HI0; (try clear hb hk hi)) | ((with_reducible refine au_ (N := 3) rfl ?_); refine bv_ 3 61 #[.int .i64 0, .int .i64 0, .int .i64 0] ?_; intro b9 hg BN hbox hb; refine kF_ (aj_.below (Z28) hb) (Ye_ bm) (ag_.trans (Z35) (ag_.of_below hb g none) (.inl rfl)) (aq_ (Z63) hb) (hbox) ((gw_ : w.heap.size ≤ b9)) ((Nat.le_trans HW0.out (gw_ : w.heap.size ≤ b9) : w0.heap.size ≤ b9)) ((kr_ : bK ≠ b9)) ((lc_ : b9 ≠ bK)) ((kR_ : g ≠ b9)) ((kW_ : b9 ≠ g)) ?_; clear HI0 bm HK HB; intro HI0 bm HK HB bQ wb v2 cl ef ff dc; clear hb hbox hg; have hnb42 := ef.out; have hnc42 := cl.out; have hnb43 := dc.out; have hnc43 := ff.out; obtain ⟨hcz44_0, hcz44_1, hcz44_2, hfz44_0, hfz44_1, hfz44_2⟩ := bt_ (w := BN) bQ.out) | ((with_reducible refine ae_ (f := 39) rfl ?_); refine gl_ 7 Tryz.func39 #[.pointer (some ⟨g, 0, none⟩), .int .i64 24] ?_; (with_reducible refine (ar_.calls g s0_0 oB oC 24 gD ma mb w0 _ ?_ ?_ A3.out).mono ?_); exact Z20; exact Z29; rintro e Nw ⟨rfl, hi, hb, hk⟩; refine ⟨_, rfl, ?_⟩; refine k5_ (ag_.blk hk (g' := bK) (o := .cells #[.int .i64 0, .int .i64 0, .int .i64 0] 61 (0, 0)) (Z57) cu.out (by simp)) (ag_.blk hk (g' := b9) (o := .cells #[.int .i64 e5, .int .i64 eA, .int .i64 fN] 61 (0, 0)) (Z37 bQ) dc.out (by simp)) (ag_.trans (Z26) hk (.inl rfl)) (hb) (hi) ?_; clear bm bQ HK HB HI0; intro bm bQ HK HB HI0; (try clear hb hk hi); obtain ⟨hcz46_0, hcz46_1, hcz46_2, hfz46_0, hfz46_1, hfz46_2⟩ := bt_ (w := Nw) bQ.out) | ((with_reducible refine au_ (N := 27) rfl ?_); refine lu_ (Kd.int .i64) 3 27 ([eA, 2000, 2001] : List Int) [.int .i64 eA, .int .i64 2000, .int .i64 2001] (aH_.one (show Kd.M (Kd.int .i64) _ _ _ eA [.int .i64 eA] from rfl) (aH_.one (show Kd.M (Kd.int .i64) _ _ _ 2000 [.int .i64 2000] from rfl) (aH_.one (show Kd.M (Kd.int .i64) _ _ _ 2001 [.int .i64 2001] from rfl) (aH_.none _ _)))) ?_; intro v272 JP ho48 hb hg_ hnew_; clear hg_ hnew_; (first | rw [← Gf.out] at ho48 | (simp only [Int.reduceToNat] at ho48; rw [← Gf.out] at ho48)); refine k6_ (Kd.pY_ ho48 (a9_ (w := w) (g := g) (row := none) (Z26))) (aj_.below (Z20) hb) (Ye_ bm) (Ye_ bQ) (ag_.trans (Z26) (ag_.of_below hb g none) (.inl rfl)) (aq_ (Z29) hb) ?_; clear HI0 bm bQ HK HB; intro oz HI0 bm bQ HK HB; clear hb ho48; obtain ⟨Ao49, co49, eo49⟩ := Kd.pW_ oz.out; subst eo49) | ((with_reducible refine ae_ (f := 75) rfl ?_); refine gl_ 28 Tryz.func75 #[.pointer (some ⟨g, 0, none⟩), .slice Ao49 Ja.length co49] ?_; (with_reducible refine (aY_.calls g s0_0 ma mb _ _ Ja MT t275 t276 w0 _ ?_ ?_ ?_ ?_ ?_ A38.out).mono ?_); exact Z20; exact Z29; exact (Z3 oz); exact (Kd.pV_ oz.out).2.1; exact ci_ (aj_.own_ne HI0.out oz.out (by decide)); rintro e u1 ⟨rfl, hi, hb, hk⟩; refine ⟨_, rfl, ?_⟩; refine k6_ (ag_.blk hk (zo_ bm) cu.out (by simp)) (ag_.blk hk (zo_ bQ) dc.out (by simp)) (Kd.pX_ (Kd.p8_ (aj_.apart (show aj_ w0 _ g s0_0 ma mb from Z20) (Z1 oz) (by decide)) hk (fun _ h => h.2)) (fun _ h => h.1)) (ag_.trans (Z26) hk (.inl rfl)) (hb) (hi) ?_; clear bm bQ oz HK HB HI0; intro bm bQ oz HK HB HI0; (try clear hb hk hi); obtain ⟨hcz51_0, hcz51_1, hcz51_2, hfz51_0, hfz51_1, hfz51_2⟩ := bt_ (w := u1) bQ.out; have hnb52 := cu.out; have hnc52 := eB.out; obtain ⟨hcz53_0, hcz53_1, hcz53_2, hfz53_0, hfz53_1, hfz53_2⟩ := bt_ (w := u1) bm.out))
  refine bodyPost_ret (results_cell_row rfl _ _ bK 61 #[.int .i64 e5, .int .i64 eA, .int .i64 MT] (0, 0) _ rfl (by (with_reducible repeat (first | refine aG_ ?_ _ | refine ax_ ?_ | refine aF_ ?_ _)); refine bb_ (cs := #[.int .i64 e5, .int .i64 eA, .int .i64 0]) ?_ 2 _ rfl; (with_reducible repeat (first | refine aG_ ?_ _ | refine ax_ ?_ | refine aF_ ?_ _)); refine bb_ (cs := #[.int .i64 e5, .int .i64 0, .int .i64 0]) ?_ 1 _ rfl; (with_reducible repeat (first | refine aG_ ?_ _ | refine ax_ ?_ | refine aF_ ?_ _)); refine bb_ (cs := #[.int .i64 0, .int .i64 0, .int .i64 0]) ?_ 0 _ rfl; (with_reducible repeat (first | refine aG_ ?_ _ | refine ax_ ?_ | refine aF_ ?_ _)); refine c0_ ?_ cl.out _; (with_reducible repeat (first | refine aG_ ?_ _ | refine ax_ ?_ | refine aF_ ?_ _)); exact bm.out) Tryz.underlying61 rfl (by kernel_rfl)) rfl ?_
  exact ⟨Z9, Z20, Z29, Z26⟩
 simp only [Option.some.injEq, Prod.mk.injEq] at H
 obtain ⟨rfl, rfl, rfl, rfl, rfl⟩ := H
 go_enter Tryz.func87, Tryz.ntmps87
 go_wp2_with (first | ((with_reducible refine au_ (N := 2) rfl ?_); refine bv_ 2 61 #[.int .i64 0, .int .i64 0, .int .i64 0] ?_; intro bK hg xp hbox hb; refine k8_ (aj_.below (Z4 HI0) hb) Wl_ (aq_ (Z7) hb) (hbox) ((Z88 : w.heap.size ≤ bK)) ((Nat.le_trans HW0.out (Z88 : w.heap.size ≤ bK) : w0.heap.size ≤ bK)) ((i8_ : g ≠ bK)) ((jl_ : bK ≠ g)) ?_; clear HI0 HK HB; intro HI0 HK HB bm qG qF eB cu; clear hb hbox hg) | ((with_reducible refine ae_ (f := 86) rfl ?_); refine gl_ 5 Tryz.func86 #[.pointer (some ⟨g, 0, none⟩)] ?_; (with_reducible refine (bL_.calls g s0_0 s0_1 s0_2 e5 eA fN oB oC w0 _ ?_ ?_ A2.out).mono ?_); exact Z28; exact Z63; rintro e xq ⟨rfl, hi, hb, hk⟩; refine ⟨_, rfl, ?_⟩; refine k4_ (ag_.blk hk (zo_ bm) cu.out (by simp)) (ag_.trans (Z35) hk (.inl rfl)) (hb) (hi) ?_; clear bm HK HB HI0; intro bm HK HB HI0; (try clear hb hk hi)) | ((with_reducible refine au_ (N := 3) rfl ?_); refine bv_ 3 61 #[.int .i64 0, .int .i64 0, .int .i64 0] ?_; intro b9 hg GY hbox hb; refine kF_ (aj_.below (Z28) hb) (Ye_ bm) (ag_.trans (Z35) (ag_.of_below hb g none) (.inl rfl)) (aq_ (Z63) hb) (hbox) ((gw_ : w.heap.size ≤ b9)) ((Nat.le_trans HW0.out (gw_ : w.heap.size ≤ b9) : w0.heap.size ≤ b9)) ((kr_ : bK ≠ b9)) ((lc_ : b9 ≠ bK)) ((kR_ : g ≠ b9)) ((kW_ : b9 ≠ g)) ?_; clear HI0 bm HK HB; intro HI0 bm HK HB bQ wb v2 cl ef ff dc; clear hb hbox hg; have hnb57 := ef.out; have hnc57 := cl.out; have hnb58 := dc.out; have hnc58 := ff.out; obtain ⟨hcz59_0, hcz59_1, hcz59_2, hfz59_0, hfz59_1, hfz59_2⟩ := bt_ (w := GY) bQ.out) | ((with_reducible refine ae_ (f := 39) rfl ?_); refine gl_ 7 Tryz.func39 #[.pointer (some ⟨g, 0, none⟩), .int .i64 24] ?_; (with_reducible refine (ar_.calls g s0_0 oB oC 24 gD ma mb w0 _ ?_ ?_ A3.out).mono ?_); exact Z20; exact Z29; rintro e Hj ⟨rfl, hi, hb, hk⟩; refine ⟨_, rfl, ?_⟩; refine k5_ (ag_.blk hk (g' := bK) (o := .cells #[.int .i64 0, .int .i64 0, .int .i64 0] 61 (0, 0)) (Z57) cu.out (by simp)) (ag_.blk hk (g' := b9) (o := .cells #[.int .i64 e5, .int .i64 eA, .int .i64 fN] 61 (0, 0)) (Z37 bQ) dc.out (by simp)) (ag_.trans (Z26) hk (.inl rfl)) (hb) (hi) ?_; clear bm bQ HK HB HI0; intro bm bQ HK HB HI0; (try clear hb hk hi); obtain ⟨hcz61_0, hcz61_1, hcz61_2, hfz61_0, hfz61_1, hfz61_2⟩ := bt_ (w := Hj) bQ.out; have hnb62 := cu.out; have hnc62 := eB.out; obtain ⟨hcz63_0, hcz63_1, hcz63_2, hfz63_0, hfz63_1, hfz63_2⟩ := bt_ (w := Hj) bm.out))
 refine bodyPost_ret (results_cell_row rfl _ _ bK 61 #[.int .i64 e5, .int .i64 eA, .int .i64 fN] (0, 0) _ rfl (Z37 bm) Tryz.underlying61 rfl (by kernel_rfl)) rfl ?_
 exact ⟨Z9, Z20, Z29, Z26⟩
def aA_.l0 : Nat → List (S61) → List Int → Int → Int → Option ((List (S61)) × Int × Int)
 | 0, _, _, _, _ => none
 | k + 1, x3, bC, bX, cj => if (x3.length : Int) < 61 then (if x3.length < 5864062014805 then (aA_.l0 k (x3 ++ [(⟨1, wrap64 (3 * (x3.length : Int)), wrap64 ((wrap64 (3 * (x3.length : Int))) + 1)⟩ : S61)]) bC bX cj) else (none)) else (some (x3, bX, cj))
def aA_.f (k : Nat) (s0_0 : List Int) (s0_1 : Int) (s0_2 : Int) : Option ((List (S61)) × Int × Int) := (ak_.f k s0_0 s0_1 s0_2).bind fun bN => (if (bN.1.length : Int) > 0 then ((ar_.f s0_0 bN.2.1 bN.2.2 (bN.1.length : Int)).bind fun ct => ((ar_.f s0_0 ct.2.1 ct.2.2 30).bind fun cB => (if cB.1 = 0 then ((b4_.f s0_0 cB.2.1 cB.2.2).bind fun il => (if 0 ≤ ct.1 then (if ct.1 < (bN.1.length : Int) then (some ((bN.1.set (ct.1 : Int).toNat (⟨il.1, il.2.1, il.2.2.1⟩ : S61)), il.2.2.2.1, il.2.2.2.2)) else (none)) else (none))) else (if cB.1 = 1 then (if 0 ≤ ct.1 then (if ct.1 < (bN.1.length : Int) then (if bN.1.length < 5864062014805 then (some ((bN.1 ++ [(⟨(ab_ bN.1 ct.1).f0, (ab_ bN.1 ct.1).f1, (ab_ bN.1 ct.1).f2⟩ : S61)]), cB.2.1, cB.2.2)) else (none)) else (none)) else (none)) else (if cB.1 = 2 then (if 0 ≤ ct.1 then (if ct.1 < (bN.1.length : Int) then (if bN.1.length < 5864062014805 then (some ((bN.1 ++ [(⟨(ab_ bN.1 ct.1).f0, (ab_ bN.1 ct.1).f2, wrap64 (((ab_ bN.1 ct.1).f2) + 2)⟩ : S61)]), cB.2.1, cB.2.2)) else (none)) else (none)) else (none)) else (if cB.1 = 3 then (aA_.l0 k ([] : List (S61)) s0_0 cB.2.1 cB.2.2) else (some (bN.1, cB.2.1, cB.2.2)))))))) else (some (bN.1, bN.2.1, bN.2.2)))
theorem aA_.mono_l : ∀ k, (∀ y0 y1 y2 y3, LeO (aA_.l0 k y0 y1 y2 y3) (aA_.l0 (k + 1) y0 y1 y2 y3))
 | 0 => fun _ _ _ _ r h => by simp [aA_.l0] at h
 | k + 1 => by
  have ih0 := aA_.mono_l k
  ·intro y0 y1 y2 y3
   unfold aA_.l0
   exact oN_
theorem aA_.mono : ∀ a0 a1 a2 k, LeO (aA_.f k a0 a1 a2) (aA_.f (k + 1) a0 a1 a2) := by
 intro a0 a1 a2 k
 have ih0 := aA_.mono_l k
 unfold aA_.f
 exact oN_
def aA_.T10 : Bool × List (List Nat × List Nat) := (true, [([], []), ([], []), ([], []), ([1, 2], [1, 2]), ([3], [3]), ([4], [4]), ([], []), ([], []), ([6, 7], [6, 7]), ([8], [8]), ([9], [9]), ([], []), ([], []), ([11, 12], [11, 12]), ([13], [13]), ([14], [14]), ([15], [15]), ([5, 10, 16], [5, 10, 16]), ([17], [17]), ([0, 18], [0, 18]), ([19, 19, 0, 1, 2, 3, 4, 5, 6, 7, 8, 9, 10, 11, 12, 13, 14, 15, 16, 17, 18, 19], [0, 1, 6, 11, 19])])
def aA_.B10 : List Nat := [0, 0, 0, 6, 14, 30, 0, 0, 192, 448, 960, 0, 0, 6144, 14336, 30720, 63488, 131070, 262142, 524287, 1048575]
theorem aA_.tab10 : bI_ .any (dd_ Tryz.f57 10) = aA_.T10 := by kernel_rfl
theorem aA_.bits10 : bQ_ aA_.T10.2 aA_.B10 = true := by kernel_rfl
set_option maxHeartbeats 8000000 in
set_option maxRecDepth 100000 in
theorem aA_.calls (k : Nat) (g : Nat) (s0_0 : List Int) (s0_1 : Int) (s0_2 : Int) (r1 : List (S61)) (r2 : Int) (r3 : Int) (w0 w : World) (hI : aj_ w0 w g s0_0 s0_1 s0_2) (hB : Below w0.heap.size w0 w) (h : aA_.f k s0_0 s0_1 s0_2 = some (r1, r2, r3)) :
  Calls Tryz.prog 57 #[.pointer (some ⟨g, 0, none⟩)] w fun e w' => ∃ v0_ : Value, e = .returned (v0_) ∧ Kd.R k61 61 w' w.heap.size (fun _ => True) v0_ r1 ∧ aj_ w0 w' g s0_0 r2 r3 ∧ Below w0.heap.size w0 w' ∧ ag_ w w' g none := by
 have hu61 := Tryz.underlying61
 have HI0 := aa_.mk hI
 have HK := aa_.mk (ag_.refl w g none)
 have HL := aa_.mk hB.size
 clear hI
 have HW0 := aa_.mk hB.size
 have HB := aa_.mk hB
 clear hB
 have H := h; unfold aA_.f at H
 clear h
 replace H := bd_ H; obtain ⟨⟨bz, iZ, i1⟩, A2, H⟩ := H
 (try dsimp only at H)
 replace H := iw_ H; obtain ⟨c3, H⟩ | ⟨c3, H⟩ := H
 ·have cU : decide (0 < (bz.length : Int)) = true := decide_eq_true c3
  have je : decide (0 < bz.length) = true := decide_eq_true (by omega)
  clear c3
  replace H := bd_ H; obtain ⟨⟨bn, jx, jy⟩, A4, H⟩ := H
  (try dsimp only at H)
  replace H := bd_ H; obtain ⟨⟨eq, mR, mS⟩, A5, H⟩ := H
  (try dsimp only at H)
  replace H := ic_ H; obtain ⟨cC, fR, H⟩ | ⟨cC, fR, c6, H⟩ := H
  ·replace H := bd_ H; obtain ⟨⟨ye, yf, yg, MV, MW⟩, A7, H⟩ := H
   (try dsimp only at H)
   replace H := id_ H; obtain ⟨gN, H⟩ := H
   replace H := id_ H; obtain ⟨gP, H⟩ := H
   generalize e_ : ((bz.set (bn : Int).toNat (⟨ye, yf, yg⟩ : S61)) : List (S61)) = MX at H
   have Ny293 := aa_.mk e_.symm; clear e_
   obtain ⟨rfl, rfl, rfl⟩ := sq_ H; clear H
   go_enter Tryz.func57, Tryz.ntmps57
   go_wp2_with (first | ((with_reducible refine ae_ (f := 55) rfl ?_); refine gl_ 6 Tryz.func55 #[.pointer (some ⟨g, 0, none⟩)] ?_; (with_reducible refine (ak_.calls k g s0_0 s0_1 s0_2 bz iZ i1 w0 _ ?_ ?_ A2.out).mono ?_); exact (Z4 HI0); exact Z7; rintro e nI ⟨Bu, rfl, ho0, hi, hb, hk⟩; refine ⟨_, rfl, ?_⟩; refine k4_ (Kd.pY_ ho0 (a9_ (w := w) (g := g) (row := none) (Z6))) Wk_ (hb) (hi) ?_; clear HK HB HI0; intro bd HK HB HI0; (try clear hb hk hi ho0); obtain ⟨cO, bw, pI⟩ := Kd.pW_ bd.out; subst pI) | ((with_reducible refine ae_ (f := 39) rfl ?_); refine gl_ 13 Tryz.func39 #[.pointer (some ⟨g, 0, none⟩), .int .i64 (bz.length : Int)] ?_; (with_reducible refine (ar_.calls g s0_0 iZ i1 (bz.length : Int) bn jx jy w0 _ ?_ ?_ A4.out).mono ?_); exact (Z4 HI0); exact Z7; rintro e oE ⟨rfl, hi, hb, hk⟩; refine ⟨_, rfl, ?_⟩; refine k4_ (Wm_ bd) Wk_ (hb) (hi) ?_; clear bd HK HB HI0; intro bd HK HB HI0; (try clear hb hk hi)) | ((with_reducible refine ae_ (f := 39) rfl ?_); refine gl_ 15 Tryz.func39 #[.pointer (some ⟨g, 0, none⟩), .int .i64 30] ?_; (with_reducible refine (ar_.calls g s0_0 jx jy 30 eq mR mS w0 _ ?_ ?_ A5.out).mono ?_); exact (Z4 HI0); exact Z7; rintro e xg ⟨rfl, hi, hb, hk⟩; refine ⟨_, rfl, ?_⟩; refine k4_ (Wm_ bd) Wk_ (hb) (hi) ?_; clear bd HK HB HI0; intro bd HK HB HI0; (try clear hb hk hi)) | ((with_reducible refine ae_ (f := 87) rfl ?_); refine gl_ 21 Tryz.func87 #[.pointer (some ⟨g, 0, none⟩)] ?_; (with_reducible refine (b4_.calls g s0_0 mR mS ye yf yg MV MW w0 _ ?_ ?_ A7.out).mono ?_); exact (Z4 HI0); exact Z7; rintro e jd ⟨rfl, hi, hb, hk⟩; refine ⟨_, rfl, ?_⟩; refine k4_ (Wm_ bd) Wk_ (hb) (hi) ?_; clear bd HK HB HI0; intro bd HK HB HI0; (try clear hb hk hi); have Nx : 0 ≤ (bn : Int) := of_decide_eq_true (Z8); have Ny : (bn : Int) < ((bz.length : Int) : Int) := of_decide_eq_true (Z8); obtain ⟨go10, uG, mI, MY, gl10, cl10, HG10⟩ := Kd.qs_ bd.out (by omega); (first | cases mI | (injection mI with ea_ en_ ec_; (first | subst ea_ | (injection ea_ with ea_; subst ea_)); subst ec_; clear en_)); have GB10 := aa_.mk MY; have GG10 := aa_.mk HG10; clear MY gl10 HG10; obtain ⟨ce10, hcl10, hM10, hcc10, hfr10⟩ := Kd.qm_ bd.out z61 (bn : Int) Nx Ny; obtain rfl := c6_ hM10; have hx10_0 : jd.cell? ⟨go10, (bn : Int).toNat * 3, none⟩ = some (.int .i64 ((ab_ bz bn).f0)) := hcc10 0 _ rfl; have hx10_1 : jd.cell? ⟨go10, (bn : Int).toNat * 3 + 1, none⟩ = some (.int .i64 ((ab_ bz bn).f1)) := hcc10 1 _ rfl; have hx10_2 : jd.cell? ⟨go10, (bn : Int).toNat * 3 + 2, none⟩ = some (.int .i64 ((ab_ bz bn).f2)) := hcc10 2 _ rfl; have hf10_0 : jd.frozen? ⟨go10, (bn : Int).toNat * 3, none⟩ = false := hfr10 0; have hf10_1 : jd.frozen? ⟨go10, (bn : Int).toNat * 3 + 1, none⟩ = false := hfr10 1; have hf10_2 : jd.frozen? ⟨go10, (bn : Int).toNat * 3 + 2, none⟩ = false := hfr10 2; clear hcl10 hcc10 hfr10 hM10; replace Nx := eq_true Nx; replace Ny := eq_true Ny; have HX16 := aa_.mk (show Kd.R k61 61 jd w.heap.size (fun _ => True) (.slice (some ⟨go10, 0, none⟩) bz.length bw) bz from (Z1 bd)); obtain ⟨ce16, hcl16, hM16, hcc16, hfr16⟩ := Kd.qm_ HX16.out z61 (bn : Int) (of_decide_eq_true (Z8)) (oQ_); obtain rfl := c6_ hM16; have HP16 := Kd.qx_ HX16.out (bn : Int) (of_decide_eq_true (Z8)) (oQ_) (seg := [.int .i64 ye, .int .i64 yf, .int .i64 yg]) (j := 0) hcl16 hcc16 (show 3 ≤ 3 from by decide) (x' := (⟨ye, yf, yg⟩ : S61)) (b9_ _ _ _ (⟨ye, yf, yg⟩ : S61) ) (fun _ hk => hk); have Bv := hcc16 0 _ rfl; (try simp only [show (k61).sz = 3 from rfl, Nat.mul_one, Nat.add_zero] at Bv); have hf16_0 := hfr16 0; (try simp only [show (k61).sz = 3 from rfl, Nat.mul_one, Nat.add_zero] at hf16_0); have Bw := hcc16 1 _ rfl; (try simp only [show (k61).sz = 3 from rfl, Nat.mul_one, Nat.add_zero] at Bw); have hf16_1 := hfr16 1; (try simp only [show (k61).sz = 3 from rfl, Nat.mul_one, Nat.add_zero] at hf16_1); have Bx := hcc16 2 _ rfl; (try simp only [show (k61).sz = 3 from rfl, Nat.mul_one, Nat.add_zero] at Bx); have hf16_2 := hfr16 2; (try simp only [show (k61).sz = 3 from rfl, Nat.mul_one, Nat.add_zero] at hf16_2); clear hcl16 hcc16 hfr16 hM16) | ((with_reducible refine cM_ (t := 61) (p := 22) rfl ?_); refine cB_ (t := 61) (p := 22) (v := ?vo_w17) (w1 := (((jd.setCell ⟨go10, (bn : Int).toNat * 3, none⟩ (.int .i64 ye)).setCell ⟨go10, (bn : Int).toNat * 3 + 1, none⟩ (.int .i64 yf)).setCell ⟨go10, (bn : Int).toNat * 3 + 2, none⟩ (.int .i64 yg))) ?hg ?ho ?hn ?hr ?_; (case ho => rfl); (case hg => rfl); (case hn => rfl); (case hr => exact Z39); intro oD hw; have hg : jd.grownBy oD (some go10) := (by rw [hw]; exact HP16.2); have hp_ : Kd.R k61 61 oD w.heap.size (fun _ => True) (.slice (some ⟨go10, 0, none⟩) bz.length bw) MX := (by rw [hw, Ny293.out]; exact HP16.1); clear HP16; refine k4_ (aj_.grown (Z4 HI0) hg (aj_.own_ne HI0.out bd.out (by decide))) (hp_) ((by rw [hw]; exact aK_ (aK_ (aK_ (HB.out) (Nat.le_trans HL.out GB10.out)) (Nat.le_trans HL.out GB10.out)) (Nat.le_trans HL.out GB10.out) : Below w0.heap.size w0 oD)) (ag_.trans (Z6) (ag_.of_grown hg g) (Kd.qk_ bd.out)) ?_; clear HI0 bd HB HK; intro HI0 bd HB HK; clear hg hw hp_))
   go_ret
   exact ⟨_, Z9, Z1 bd, Z4 HI0, Z7, Z6⟩
  replace H := ic_ H; obtain ⟨eQ, oS, H⟩ | ⟨eQ, oS, c18, H⟩ := H
  ·replace H := id_ H; obtain ⟨mm, H⟩ := H
   replace H := id_ H; obtain ⟨dS, H⟩ := H
   replace H := ia_ H; obtain ⟨ry, H⟩ := H
   generalize e_ : ((bz ++ [(⟨(ab_ bz bn).f0, (ab_ bz bn).f1, (ab_ bz bn).f2⟩ : S61)]) : List (S61)) = y295 at H
   have Ny295 := aa_.mk e_.symm; clear e_
   obtain ⟨rfl, rfl, rfl⟩ := sq_ H; clear H
   go_enter Tryz.func57, Tryz.ntmps57
   go_wp2_with (first | ((with_reducible refine ae_ (f := 55) rfl ?_); refine gl_ 6 Tryz.func55 #[.pointer (some ⟨g, 0, none⟩)] ?_; (with_reducible refine (ak_.calls k g s0_0 s0_1 s0_2 bz iZ i1 w0 _ ?_ ?_ A2.out).mono ?_); exact (Z4 HI0); exact Z7; rintro e jE ⟨Bu, rfl, ho0, hi, hb, hk⟩; refine ⟨_, rfl, ?_⟩; refine k4_ (Kd.pY_ ho0 (a9_ (w := w) (g := g) (row := none) (Z6))) Wk_ (hb) (hi) ?_; clear HK HB HI0; intro bd HK HB HI0; (try clear hb hk hi ho0); obtain ⟨Ao23, co23, eo23⟩ := Kd.pW_ bd.out; subst eo23) | ((with_reducible refine ae_ (f := 39) rfl ?_); refine gl_ 13 Tryz.func39 #[.pointer (some ⟨g, 0, none⟩), .int .i64 (bz.length : Int)] ?_; (with_reducible refine (ar_.calls g s0_0 iZ i1 (bz.length : Int) bn jx jy w0 _ ?_ ?_ A4.out).mono ?_); exact (Z4 HI0); exact Z7; rintro e cP ⟨rfl, hi, hb, hk⟩; refine ⟨_, rfl, ?_⟩; refine k4_ (Wm_ bd) Wk_ (hb) (hi) ?_; clear bd HK HB HI0; intro bd HK HB HI0; (try clear hb hk hi)) | ((with_reducible refine ae_ (f := 39) rfl ?_); refine gl_ 15 Tryz.func39 #[.pointer (some ⟨g, 0, none⟩), .int .i64 30] ?_; (with_reducible refine (ar_.calls g s0_0 jx jy 30 eq mR mS w0 _ ?_ ?_ A5.out).mono ?_); exact (Z4 HI0); exact Z7; rintro e Dq ⟨rfl, hi, hb, hk⟩; refine ⟨_, rfl, ?_⟩; refine k4_ (Wm_ bd) Wk_ (hb) (hi) ?_; clear bd HK HB HI0; intro bd HK HB HI0; (try clear hb hk hi); have C3 : 0 ≤ (bn : Int) := of_decide_eq_true (Z8); have C4 : bn < (bz.length : Int) := of_decide_eq_true (Z8); obtain ⟨ad294, e294, hx294_0, hx294_1, hx294_2⟩ := di_ (Kd.pV_ bd.out).2.2 bn C3 C4; cases e294; replace C3 := eq_true C3; replace C4 := eq_true C4) | ((with_reducible refine bh_ (b := .append) (xs := #[.tmp 25, .tmp 30]) rfl ?_); at_builtin; refine fy_ w.heap.size (.tmp 25) (.tmp 30) (.slice (some ad294) bz.length co23) bz (⟨(ab_ bz bn).f0, (ab_ bz bn).f1, (ab_ bz bn).f2⟩ : S61) [.int .i64 ((ab_ bz bn).f0), .int .i64 ((ab_ bz bn).f1), .int .i64 ((ab_ bz bn).f2)] (fun _ => True) rfl rfl ?aP ?aF ?aO (Below.refl _ _) ?aS ?aL ?_; (case aP => exact b9_ _ _ _ (⟨(ab_ bz bn).f0, (ab_ bz bn).f1, (ab_ bz bn).f2⟩ : S61)); (case aF => exact (fun _ _ => trivial)); (case aO => exact (Z1 bd)); (case aS => exact (a9_ (w := w) (g := g) (row := none) (Z6))); (case aL => exact Z91 ry); intro v296 GT ho hb hg hat; rw [← Ny295.out] at ho; refine k4_ (aj_.grown (Z4 HI0) hg (aj_.own_ne HI0.out bd.out (by decide))) (cN_ (Z7) HL.out hb) (ag_.trans (Z6) (ag_.of_grown hg g) (Kd.qk_ bd.out)) (ho) ?_; clear HI0 HB HK bd; intro HI0 HB HK HO297; clear ho hb hg hat))
   go_ret
   exact ⟨_, Z9, Z1 HO297, Z4 HI0, Z7, Z6⟩
  replace H := ic_ H; obtain ⟨d5, jF, H⟩ | ⟨d5, jF, c27, H⟩ := H
  ·replace H := id_ H; obtain ⟨mg, H⟩ := H
   replace H := id_ H; obtain ⟨nZ, H⟩ := H
   replace H := ia_ H; obtain ⟨zQ, H⟩ := H
   generalize e_ : ((bz ++ [(⟨(ab_ bz bn).f0, (ab_ bz bn).f2, wrap64 (((ab_ bz bn).f2) + 2)⟩ : S61)]) : List (S61)) = y301 at H
   have Ny301 := aa_.mk e_.symm; clear e_
   obtain ⟨rfl, rfl, rfl⟩ := sq_ H; clear H
   go_enter Tryz.func57, Tryz.ntmps57
   try go_wp2_with (first | ((with_reducible refine ae_ (f := 55) rfl ?_); refine gl_ 6 Tryz.func55 #[.pointer (some ⟨g, 0, none⟩)] ?_; (with_reducible refine (ak_.calls k g s0_0 s0_1 s0_2 bz iZ i1 w0 _ ?_ ?_ A2.out).mono ?_); exact (Z4 HI0); exact Z7; rintro e Ns ⟨Bu, rfl, ho0, hi, hb, hk⟩; refine ⟨_, rfl, ?_⟩; refine k4_ (Kd.pY_ ho0 (a9_ (w := w) (g := g) (row := none) (Z6))) Wk_ (hb) (hi) ?_; clear HK HB HI0; intro bd HK HB HI0; (try clear hb hk hi ho0); obtain ⟨re, jj, nM⟩ := Kd.pW_ bd.out; subst nM) | ((with_reducible refine ae_ (f := 39) rfl ?_); refine gl_ 13 Tryz.func39 #[.pointer (some ⟨g, 0, none⟩), .int .i64 (bz.length : Int)] ?_; (with_reducible refine (ar_.calls g s0_0 iZ i1 (bz.length : Int) bn jx jy w0 _ ?_ ?_ A4.out).mono ?_); exact (Z4 HI0); exact Z7; rintro e m9 ⟨rfl, hi, hb, hk⟩; refine ⟨_, rfl, ?_⟩; refine k4_ (Wm_ bd) Wk_ (hb) (hi) ?_; clear bd HK HB HI0; intro bd HK HB HI0; (try clear hb hk hi)) | ((with_reducible refine ae_ (f := 39) rfl ?_); refine gl_ 15 Tryz.func39 #[.pointer (some ⟨g, 0, none⟩), .int .i64 30] ?_; (with_reducible refine (ar_.calls g s0_0 jx jy 30 eq mR mS w0 _ ?_ ?_ A5.out).mono ?_); exact (Z4 HI0); exact Z7; rintro e ws ⟨rfl, hi, hb, hk⟩; refine ⟨_, rfl, ?_⟩; refine k4_ (Wm_ bd) Wk_ (hb) (hi) ?_; clear bd HK HB HI0; intro bd HK HB HI0; (try clear hb hk hi)))
   refine k4_ (Kd.pZ_ bd.out) (aj_.drew HI0.out) (cb_ HK.out) (av_ HB.out) ?_
   clear bd HI0 HK HB
   intro bd HI0 HK HB
   obtain ⟨d6, e298, qu, qv, qw, C5, C6⟩ := d0_ (Kd.pV_ bd.out).2.2 bn
   cases e298
   obtain ⟨ad299, e299, qx, qy, qz, C7, C8⟩ := d0_ (Kd.pV_ bd.out).2.2 bn
   obtain rfl : d6 = ad299 := (by injection e299)
   obtain ⟨ad300, e300, qA, qB, qC, C9, Da⟩ := d0_ (Kd.pV_ bd.out).2.2 bn
   obtain rfl : d6 = ad300 := (by injection e300)
   refine b2_ (n := 21) (S := fun w' => w'.cell? (d6.add ((bn).toNat * 3)) = some (.int .i64 ((ab_ bz bn).f0)) ∧ w'.cell? ⟨(d6.add ((bn).toNat * 3)).block, (d6.add ((bn).toNat * 3)).off + 1, none⟩ = some (.int .i64 ((ab_ bz bn).f1)) ∧ w'.cell? ⟨(d6.add ((bn).toNat * 3)).block, (d6.add ((bn).toNat * 3)).off + 2, none⟩ = some (.int .i64 ((ab_ bz bn).f2)) ∧ w'.cell? (d6.add ((bn).toNat * 3)) = some (.int .i64 ((ab_ bz bn).f0)) ∧ w'.cell? ⟨(d6.add ((bn).toNat * 3)).block, (d6.add ((bn).toNat * 3)).off + 1, none⟩ = some (.int .i64 ((ab_ bz bn).f1)) ∧ w'.cell? ⟨(d6.add ((bn).toNat * 3)).block, (d6.add ((bn).toNat * 3)).off + 2, none⟩ = some (.int .i64 ((ab_ bz bn).f2)) ∧ w'.cell? (d6.add ((bn).toNat * 3)) = some (.int .i64 ((ab_ bz bn).f0)) ∧ w'.cell? ⟨(d6.add ((bn).toNat * 3)).block, (d6.add ((bn).toNat * 3)).off + 1, none⟩ = some (.int .i64 ((ab_ bz bn).f1)) ∧ w'.cell? ⟨(d6.add ((bn).toNat * 3)).block, (d6.add ((bn).toNat * 3)).off + 2, none⟩ = some (.int .i64 ((ab_ bz bn).f2))) (ds := [18, 19]) (M_ 0 21) (by kernel_rfl) rfl rfl ⟨qu, qv, qw, qx, qy, qz, qA, qB, qC⟩ (fun hHeld => ?_); refine bz_ aA_.tab10 aA_.bits10 (fun HT_ HW_ => ?_)
   generalize ws.drew = lN at bd HI0 HK HB qu qv qw qx qy qz qA qB qC hHeld ⊢
   refine pu_ 0 34 (M_ 1 20) ?_
   refine pu_ 1 35 (M_ 2 19) ?_
   refine pu_ 2 36 (M_ 3 18) ?_
   refine pu_ 3 37 (M_ 4 17) ?_
   refine pu_ 4 38 (M_ 5 16) ?_
   refine pu_ 6 40 (N_ 21 95) ?_
   refine pu_ 7 41 (N_ 21 223) ?_
   refine pu_ 8 42 (N_ 21 479) ?_
   refine pu_ 9 43 (N_ 21 991) ?_
   refine pu_ 11 45 (N_ 21 3039) ?_
   refine pu_ 12 46 (N_ 21 7135) ?_
   refine pu_ 13 47 (N_ 21 15327) ?_
   refine pu_ 14 48 (N_ 21 31711) ?_
   refine mQ_ 5 39 (N_ 21 31743) hHeld ?_
   refine mQ_ 10 44 (M_ 15 6) hHeld ?_
   refine mQ_ 15 49 (M_ 16 5) hHeld ?_
   refine pu_ 16 50 (M_ 17 4) ?_
   refine pu_ 17 51 (M_ 18 3) ?_
   refine g9_ (i := 18) (N := some 52) (M_ 19 2) rfl rfl (fP_ HT_.out (by kernel_rfl)) (by decide) (fun K hK => ?_)
   refine d9_ (w1 := ?_) (v := ?_) (by rfl) rfl ?_ ?_
   rotate_left 2
   ·go_simp
    constructor
    ·rfl
    rfl
   refine hK.out _ _ ?_
   clear hK K
   refine nm_ 52 ?_
   refine g9_ (i := 19) (N := some 53) (M_ 20 1) rfl rfl (fP_ HT_.out (by kernel_rfl)) (by decide) (fun K hK => ?_)
   refine Kd.qB_ k61 w.heap.size (by rfl) (.tmp 34) (.tmp 52) 24 61 (.agg #[(.int .i64 0), (.int .i64 0), (.int .i64 0)]) 24 rfl Tryz.underlying24 eY_ rfl (by decide) (by omega) (.slice (some d6) bz.length jj) bz (⟨(ab_ bz bn).f0, (ab_ bz bn).f2, wrap64 (((ab_ bz bn).f2) + 2)⟩ : S61) [.int .i64 ((ab_ bz bn).f0), .int .i64 ((ab_ bz bn).f2), .int .i64 (wrap64 (((ab_ bz bn).f2) + 2))] (fun _ => True) (fun _ => False) rfl rfl ?aP (fun _ hk => hk.elim) ?aF ?aO (Below.refl _ _) ?aS ?aL ?_
   (case aP => exact b9_ _ _ _ (⟨(ab_ bz bn).f0, (ab_ bz bn).f2, wrap64 (((ab_ bz bn).f2) + 2)⟩ : S61))
   (case aF => exact (fun _ _ => trivial))
   (case aO => exact (Z1 bd))
   (case aS => exact (a9_ (w := w) (g := g) (row := none) (Z6)))
   (case aL => exact Z91 zQ)
   intro v302 GU ho hb hg hat
   rw [← Ny301.out] at ho
   refine k4_ (aj_.grown (Z4 HI0) hg (aj_.own_ne HI0.out bd.out (by decide))) (cN_ (Z7) HL.out hb) (ag_.trans (Z6) (ag_.of_grown hg g) (Kd.qk_ bd.out)) (ho) ?_
   clear HI0 HB HK bd
   intro HI0 HB HK HO303
   clear ho hb hg hat
   refine hK.out _ _ ?_
   clear hK K
   refine nm_ 53 ?_
   refine pu_ 20 3 (M_ 21 0) ?_
   refine cw_ (bS_ HT_.out (by kernel_rfl)) ?_
   try go_wp2
   go_ret
   exact ⟨_, Z9, Z1 HO303, Z4 HI0, Z7, Z6⟩
  replace H := ic_ H; obtain ⟨oc, tR, H⟩ | ⟨oc, tR, c37, H⟩ := H
  ·have H' := aa_.mk H
   clear H
   go_enter Tryz.func57, Tryz.ntmps57
   go_wp2_with (first | ((with_reducible refine ae_ (f := 55) rfl ?_); refine gl_ 6 Tryz.func55 #[.pointer (some ⟨g, 0, none⟩)] ?_; (with_reducible refine (ak_.calls k g s0_0 s0_1 s0_2 bz iZ i1 w0 _ ?_ ?_ A2.out).mono ?_); exact (Z4 HI0); exact Z7; rintro e uP ⟨Bu, rfl, ho0, hi, hb, hk⟩; refine ⟨_, rfl, ?_⟩; refine k4_ (Kd.pY_ ho0 (a9_ (w := w) (g := g) (row := none) (Z6))) Wk_ (hb) (hi) ?_; clear HK HB HI0; intro bd HK HB HI0; (try clear hb hk hi ho0); obtain ⟨HW, HX, Ct⟩ := Kd.pW_ bd.out; subst Ct) | ((with_reducible refine ae_ (f := 39) rfl ?_); refine gl_ 13 Tryz.func39 #[.pointer (some ⟨g, 0, none⟩), .int .i64 (bz.length : Int)] ?_; (with_reducible refine (ar_.calls g s0_0 iZ i1 (bz.length : Int) bn jx jy w0 _ ?_ ?_ A4.out).mono ?_); exact (Z4 HI0); exact Z7; rintro e Ca ⟨rfl, hi, hb, hk⟩; refine ⟨_, rfl, ?_⟩; refine k4_ (Wm_ bd) Wk_ (hb) (hi) ?_; clear bd HK HB HI0; intro bd HK HB HI0; (try clear hb hk hi)) | ((with_reducible refine ae_ (f := 39) rfl ?_); refine gl_ 15 Tryz.func39 #[.pointer (some ⟨g, 0, none⟩), .int .i64 30] ?_; (with_reducible refine (ar_.calls g s0_0 jx jy 30 eq mR mS w0 _ ?_ ?_ A5.out).mono ?_); exact (Z4 HI0); exact Z7; rintro e BN ⟨rfl, hi, hb, hk⟩; refine ⟨_, rfl, ?_⟩; refine k4_ (Wm_ bd) Wk_ (hb) (hi) ?_; clear bd HK HB HI0; intro bd HK HB HI0; (try clear hb hk hi)))
   (try simp only [Act.put, List.setIfInBounds_toArray, List.set_cons_zero, List.set_cons_succ])
   go_loopg [3] k (fun kq v3 w' => ∃ (aN : List (S61)), aa_ (aA_.l0 kq aN s0_0 mR mS = some (r1, r2, r3)) ∧ aa_ (kq ≤ k) ∧ aa_ (Kd.R k61 61 w' w.heap.size (fun _ => True) v3 aN) ∧ aa_ (aj_ w0 w' g s0_0 mR mS) ∧ aa_ (ag_ w w' g none) ∧ aa_ (Below w0.heap.size w0 w'))
   case atStart => exact ⟨(([] : List (S61))), H', ⟨Nat.le_refl _⟩, ⟨Z17⟩, ⟨Z4 HI0⟩, ⟨Z6⟩, ⟨Z7⟩⟩
   case round =>
    clear H'
    (try clear c3); (try clear cU); (try clear je); (try clear c6); (try clear cC); (try clear fR); (try clear c18); (try clear eQ); (try clear oS); (try clear mm); (try clear c27); (try clear d5); (try clear jF); (try clear mg); (try clear c37); (try clear oc); (try clear tR)
    obtain ⟨aN, HA, HK1, aA, HI0, HK, HB⟩ := hrel
    cases gk with
    | zero => exact absurd HA.out (by simp [aA_.l0])
    | succ k1 =>
     have H := HA.out
     clear HA
     simp only [aA_.l0] at H
     replace H := iw_ H; obtain ⟨c42, H⟩ | ⟨c42, H⟩ := H
     ·have Aj : decide ((aN.length : Int) < 61) = true := decide_eq_true c42
      have c42b1 : decide (aN.length < 61) = true := decide_eq_true (by omega)
      clear c42
      replace H := ia_ H; obtain ⟨Bn, H⟩ := H
      generalize e_ : ((aN ++ [(⟨1, wrap64 (3 * (aN.length : Int)), wrap64 ((wrap64 (3 * (aN.length : Int))) + 1)⟩ : S61)]) : List (S61)) = MZ at H
      have Ny304 := aa_.mk e_.symm; clear e_
      have H' := aa_.mk H
      clear H
      obtain ⟨CF, Ak, oM⟩ := Kd.pW_ aA.out
      subst oM
      go_wp2_with (((with_reducible refine bh_ (b := .append) (xs := #[.tmp 59, .tmp 68]) rfl ?_); at_builtin; refine fy_ w.heap.size (.tmp 59) (.tmp 68) (.slice CF aN.length Ak) aN (⟨1, wrap64 (3 * (aN.length : Int)), wrap64 ((wrap64 (3 * (aN.length : Int))) + 1)⟩ : S61) [.int .i64 1, .int .i64 (wrap64 (3 * (aN.length : Int))), .int .i64 (wrap64 ((wrap64 (3 * (aN.length : Int))) + 1))] (fun _ => True) rfl rfl ?aP ?aF ?aO (Below.refl _ _) ?aS ?aL ?_; (case aP => exact b9_ _ _ _ (⟨1, wrap64 (3 * (aN.length : Int)), wrap64 ((wrap64 (3 * (aN.length : Int))) + 1)⟩ : S61)); (case aF => exact (fun _ _ => trivial)); (case aO => exact (Z1 aA)); (case aS => exact (a9_ (w := w) (g := g) (row := none) (Z6))); (case aL => exact Z91 Bn); intro v305 Nw ho hb hg hat; rw [← Ny304.out] at ho; refine k4_ (aj_.grown (Z4 HI0) hg (aj_.own_ne HI0.out aA.out (by decide))) (cN_ (Z7) HL.out hb) (ag_.trans (Z6) (ag_.of_grown hg g) (Kd.qk_ aA.out)) (ho) ?_; clear HI0 HB HK aA; intro HI0 HB HK HO306; clear ho hb hg hat))
      go_roundg k1
      case measure => have := HK1.out; omega
      case rel => exact ⟨(MZ), H', ⟨Z91 HK1⟩, ⟨Z1 HO306⟩, ⟨Z4 HI0⟩, ⟨Z6⟩, ⟨Z7⟩⟩
     have Aj : decide ((aN.length : Int) < 61) = false := decide_eq_false c42
     have c42b1 : decide (aN.length < 61) = false := decide_eq_false (by omega)
     clear c42
     obtain ⟨rfl, rfl, rfl⟩ := sq_ H; clear H
     obtain ⟨IE, IF, vD⟩ := Kd.pW_ aA.out
     subst vD
     go_wp2
     go_ret
     exact ⟨_, Z9, Z1 aA, Z4 HI0, Z7, Z6⟩
  obtain ⟨rfl, rfl, rfl⟩ := sq_ H; clear H
  go_enter Tryz.func57, Tryz.ntmps57
  go_wp2_with (first | ((with_reducible refine ae_ (f := 55) rfl ?_); refine gl_ 6 Tryz.func55 #[.pointer (some ⟨g, 0, none⟩)] ?_; (with_reducible refine (ak_.calls k g s0_0 s0_1 s0_2 bz iZ i1 w0 _ ?_ ?_ A2.out).mono ?_); exact (Z4 HI0); exact Z7; rintro e JP ⟨Bu, rfl, ho0, hi, hb, hk⟩; refine ⟨_, rfl, ?_⟩; refine k4_ (Kd.pY_ ho0 (a9_ (w := w) (g := g) (row := none) (Z6))) Wk_ (hb) (hi) ?_; clear HK HB HI0; intro bd HK HB HI0; (try clear hb hk hi ho0); obtain ⟨Ao48, co48, IG⟩ := Kd.pW_ bd.out; subst IG) | ((with_reducible refine ae_ (f := 39) rfl ?_); refine gl_ 13 Tryz.func39 #[.pointer (some ⟨g, 0, none⟩), .int .i64 (bz.length : Int)] ?_; (with_reducible refine (ar_.calls g s0_0 iZ i1 (bz.length : Int) bn jx jy w0 _ ?_ ?_ A4.out).mono ?_); exact (Z4 HI0); exact Z7; rintro e DQ ⟨rfl, hi, hb, hk⟩; refine ⟨_, rfl, ?_⟩; refine k4_ (Wm_ bd) Wk_ (hb) (hi) ?_; clear bd HK HB HI0; intro bd HK HB HI0; (try clear hb hk hi)) | ((with_reducible refine ae_ (f := 39) rfl ?_); refine gl_ 15 Tryz.func39 #[.pointer (some ⟨g, 0, none⟩), .int .i64 30] ?_; (with_reducible refine (ar_.calls g s0_0 jx jy 30 eq mR mS w0 _ ?_ ?_ A5.out).mono ?_); exact (Z4 HI0); exact Z7; rintro e u1 ⟨rfl, hi, hb, hk⟩; refine ⟨_, rfl, ?_⟩; refine k4_ (Wm_ bd) Wk_ (hb) (hi) ?_; clear bd HK HB HI0; intro bd HK HB HI0; (try clear hb hk hi)))
  go_ret
  exact ⟨_, Z9, Z1 bd, Z4 HI0, Z7, Z6⟩
 have cU : decide (0 < (bz.length : Int)) = false := decide_eq_false c3
 have je : decide (0 < bz.length) = false := decide_eq_false (by omega)
 clear c3
 obtain ⟨rfl, rfl, rfl⟩ := sq_ H; clear H
 go_enter Tryz.func57, Tryz.ntmps57
 go_wp2_with (((with_reducible refine ae_ (f := 55) rfl ?_); refine gl_ 6 Tryz.func55 #[.pointer (some ⟨g, 0, none⟩)] ?_; (with_reducible refine (ak_.calls k g s0_0 s0_1 s0_2 bz iZ i1 w0 _ ?_ ?_ A2.out).mono ?_); exact (Z4 HI0); exact Z7; rintro e Ol ⟨Bu, rfl, ho0, hi, hb, hk⟩; refine ⟨_, rfl, ?_⟩; refine k4_ (Kd.pY_ ho0 (a9_ (w := w) (g := g) (row := none) (Z6))) Wk_ (hb) (hi) ?_; clear HK HB HI0; intro bd HK HB HI0; (try clear hb hk hi ho0); obtain ⟨Cm, Cn, zF⟩ := Kd.pW_ bd.out; subst zF))
 go_ret
 exact ⟨_, Z9, Z1 bd, Z4 HI0, Z7, Z6⟩
theorem kQ_ {p : Prop} (h : p := by repeat' first | (with_reducible first | apply ih0 | apply ih0 | apply ih1 | apply ih1 | apply ih2 | apply ih2 | apply aA_.mono | apply aA_.mono | apply ak_.mono | apply ak_.mono | apply a8_.mono | apply a8_.mono | exact LeO.refl _ | exact LeO.none _ | refine LeO.ite ?_ ?_ | refine LeO.bind ?_ (fun _ => ?_)) | exact LeO.none _ | refine LeO.ite ?_ ?_ | refine LeO.bind ?_ (fun _ => ?_)) : p := h
mutual
def ad_.l0 : Nat → List (S61) → List Int → Int → Int → Option ((List (S61)) × Int × Int)
 | 0, _, _, _, _ => none
 | k + 1, x3, bC, bX, cj => if (x3.length : Int) < 20 then (if x3.length < 5864062014805 then (ad_.l0 k (x3 ++ [(⟨(x3.length : Int), 0, 40⟩ : S61)]) bC bX cj) else (none)) else (if 19 < (x3.length : Int) then ((ar_.f bC bX cj 2).bind fun Bz => (some ((x3.set (19 : Int).toNat (⟨(ab_ x3 19).f0, (ab_ x3 19).f1, wrap64 (((ab_ x3 19).f2) + Bz.1)⟩ : S61)), Bz.2.1, Bz.2.2))) else (none))
def ad_.l1 : Nat → List (S61) → List (S61) → Int → Int → List Int → Int → Int → Option ((List (S61)) × Int × Int)
 | 0, _, _, _, _, _, _, _ => none
 | k + 1, x3, x30, x31, x32, bC, bX, cj => if x32 < x31 then (if 0 ≤ x32 then (if x32 < (x30.length : Int) then (if (wrap64 (((ab_ x30 x32).f2) - ((ab_ x30 x32).f1))) < 4 then ((bw_.f bC bX cj 20).bind fun BA => (ad_.j2 k x3 x30 x31 x32 (!BA.1) bC BA.2.1 BA.2.2 ((ab_ x30 x32).f0) ((ab_ x30 x32).f1) ((ab_ x30 x32).f2))) else (ad_.j2 k x3 x30 x31 x32 false bC bX cj ((ab_ x30 x32).f0) ((ab_ x30 x32).f1) ((ab_ x30 x32).f2))) else (none)) else (none)) else ((bw_.f bC bX cj 16).bind fun uh => (if uh.1 = true then ((aA_.f k bC uh.2.1 uh.2.2).bind fun BB => (some (BB.1, BB.2.1, BB.2.2))) else (some (x3, uh.2.1, uh.2.2))))
def ad_.j2 : Nat → List (S61) → List (S61) → Int → Int → Bool → List Int → Int → Int → Int → Int → Int → Option ((List (S61)) × Int × Int)
 | 0, _, _, _, _, _, _, _, _, _, _, _ => none
 | k + 1, x3, x30, x31, x32, x46, bC, bX, cj, xa, qD, x325002 => if x46 = true then ((ar_.f bC bX cj 5).bind fun ui => ((a8_.f k x3 xa qD (wrap64 ((wrap64 (qD + 4)) + ui.1))).bind fun Gg => (if Gg.2 = true then (ad_.l1 k Gg.1 x30 x31 (wrap64 (x32 + 1)) bC ui.2.1 ui.2.2) else (ad_.l1 k x3 x30 x31 (wrap64 (x32 + 1)) bC ui.2.1 ui.2.2)))) else ((a8_.f k x3 xa qD x325002).bind fun Gh => (if Gh.2 = true then (ad_.l1 k Gh.1 x30 x31 (wrap64 (x32 + 1)) bC bX cj) else (ad_.l1 k x3 x30 x31 (wrap64 (x32 + 1)) bC bX cj)))
end
def ad_.f (k : Nat) (s0_0 : List Int) (s0_1 : Int) (s0_2 : Int) : Option ((List (S61)) × Int × Int) := (bw_.f s0_0 s0_1 s0_2 20).bind fun im => (if im.1 = true then (ad_.l0 k ([] : List (S61)) s0_0 im.2.1 im.2.2) else ((ak_.f k s0_0 im.2.1 im.2.2).bind fun lL => (ad_.l1 k ([] : List (S61)) lL.1 (lL.1.length : Int) 0 s0_0 lL.2.1 lL.2.2)))
theorem ad_.mono_l : ∀ k, (∀ y0 y1 y2 y3, LeO (ad_.l0 k y0 y1 y2 y3) (ad_.l0 (k + 1) y0 y1 y2 y3)) ∧ (∀ y0 y1 y2 y3 y4 y5 y6, LeO (ad_.l1 k y0 y1 y2 y3 y4 y5 y6) (ad_.l1 (k + 1) y0 y1 y2 y3 y4 y5 y6)) ∧ (∀ y0 y1 y2 y3 y4 y5 y6 y7 y8 y9 uR, LeO (ad_.j2 k y0 y1 y2 y3 y4 y5 y6 y7 y8 y9 uR) (ad_.j2 (k + 1) y0 y1 y2 y3 y4 y5 y6 y7 y8 y9 uR))
 | 0 => ⟨fun _ _ _ _ r h => by simp [ad_.l0] at h, fun _ _ _ _ _ _ _ r h => by simp [ad_.l1] at h, fun _ _ _ _ _ _ _ _ _ _ _ r h => by simp [ad_.j2] at h⟩
 | k + 1 => by
  obtain ⟨ih0, ih1, ih2⟩ := ad_.mono_l k
  refine ⟨?_, ?_, ?_⟩
  ·intro y0 y1 y2 y3
   unfold ad_.l0
   exact kQ_
  ·intro y0 y1 y2 y3 y4 y5 y6
   unfold ad_.l1
   exact kQ_
  intro y0 y1 y2 y3 y4 y5 y6 y7 y8 y9 uR
  unfold ad_.j2
  exact kQ_
theorem ad_.mono : ∀ a0 a1 a2 k, LeO (ad_.f k a0 a1 a2) (ad_.f (k + 1) a0 a1 a2) := by
 intro a0 a1 a2 k
 obtain ⟨ih0, ih1, ih2⟩ := ad_.mono_l k
 unfold ad_.f
 exact kQ_
def ad_.T5 : Bool × List (List Nat × List Nat) := (true, [([], []), ([0], [0]), ([1], [1]), ([2], [2]), ([], []), ([4], [4]), ([3, 5], [3, 5]), ([0, 0, 1, 2, 3, 4, 5, 6], [0]), ([7, 0, 1, 2, 3, 4, 5, 6], [7]), ([8, 6, 5, 0, 1, 2, 3, 4, 5, 6], [6, 8])])
def ad_.B5 : List Nat := [0, 1, 3, 7, 0, 16, 63, 127, 255, 511]
theorem ad_.tab5 : bI_ .any (dd_ Tryz.f27 5) = ad_.T5 := by kernel_rfl
theorem ad_.bits5 : bQ_ ad_.T5.2 ad_.B5 = true := by kernel_rfl
def ad_.T11 : Bool × List (List Nat × List Nat) := (true, [([], []), ([0], [0]), ([1], [1]), ([], []), ([3], [3]), ([2, 4], [2, 4]), ([0, 1, 2, 3, 4, 5], []), ([6, 5, 4, 0, 1, 2, 3, 4, 5], [5, 6])])
def ad_.B11 : List Nat := [0, 1, 3, 0, 8, 31, 63, 127]
theorem ad_.tab11 : bI_ .any (dd_ Tryz.f27 11) = ad_.T11 := by kernel_rfl
theorem ad_.bits11 : bQ_ ad_.T11.2 ad_.B11 = true := by kernel_rfl
set_option maxHeartbeats 8000000 in
set_option maxRecDepth 100000 in
theorem ad_.calls (k : Nat) (g : Nat) (s0_0 : List Int) (s0_1 : Int) (s0_2 : Int) (r1 : List (S61)) (r2 : Int) (r3 : Int) (w0 w : World) (hI : aj_ w0 w g s0_0 s0_1 s0_2) (hB : Below w0.heap.size w0 w) (h : ad_.f k s0_0 s0_1 s0_2 = some (r1, r2, r3)) :
  Calls Tryz.prog 27 #[.pointer (some ⟨g, 0, none⟩)] w fun e w' => ∃ v0_ : Value, e = .returned (v0_) ∧ Kd.R k61 61 w' w.heap.size (fun _ => True) v0_ r1 ∧ aj_ w0 w' g s0_0 r2 r3 ∧ Below w0.heap.size w0 w' ∧ ag_ w w' g none := by
 have hu61 := Tryz.underlying61
 have HI0 := aa_.mk hI
 have HK := aa_.mk (ag_.refl w g none)
 have HL := aa_.mk hB.size
 clear hI
 have HW0 := aa_.mk hB.size
 have HB := aa_.mk hB
 clear hB
 have H := h; unfold ad_.f at H
 clear h
 replace H := bd_ H; obtain ⟨⟨t307, uj, uk⟩, A2, H⟩ := H
 (try dsimp only at H)
 replace H := it_ H; obtain ⟨rfl, H⟩ | ⟨rfl, H⟩ := H
 ·have H' := aa_.mk H
  clear H
  go_enter Tryz.func27, Tryz.ntmps27
  go_wp2_with (((with_reducible refine ae_ (f := 54) rfl ?_); refine gl_ 9 Tryz.func54 #[.pointer (some ⟨g, 0, none⟩), .int .i64 20] ?_; (with_reducible refine (bw_.calls g s0_0 s0_1 s0_2 20 true uj uk w0 _ ?_ ?_ A2.out).mono ?_); exact (Z4 HI0); exact Z7; rintro e w4 ⟨rfl, hi, hb, hk⟩; refine ⟨_, rfl, ?_⟩; refine k3_ Wk_ (hb) (hi) ?_; clear HK HB HI0; intro HK HB HI0; (try clear hb hk hi)))
  (try simp only [Act.put, List.setIfInBounds_toArray, List.set_cons_zero, List.set_cons_succ])
  go_loopg [3] k (fun kq v3 w' => ∃ (aN : List (S61)), aa_ (ad_.l0 kq aN s0_0 uj uk = some (r1, r2, r3)) ∧ aa_ (kq ≤ k) ∧ aa_ (Kd.R k61 61 w' w.heap.size (fun _ => True) v3 aN) ∧ aa_ (aj_ w0 w' g s0_0 uj uk) ∧ aa_ (ag_ w w' g none) ∧ aa_ (Below w0.heap.size w0 w'))
  case atStart => exact ⟨(([] : List (S61))), H', ⟨Nat.le_refl _⟩, ⟨Z17⟩, ⟨Z4 HI0⟩, ⟨Z6⟩, ⟨Z7⟩⟩
  case round =>
   clear H'
   obtain ⟨aN, HA, HK1, aA, HI0, HK, HB⟩ := hrel
   cases gk with
   | zero => exact absurd HA.out (by simp [ad_.l0])
   | succ k1 =>
    have H := HA.out
    clear HA
    simp only [ad_.l0] at H
    replace H := iw_ H; obtain ⟨c5, H⟩ | ⟨c5, H⟩ := H
    ·have dp : decide ((aN.length : Int) < 20) = true := decide_eq_true c5
     have uQ : decide (aN.length < 20) = true := decide_eq_true (by omega)
     clear c5
     replace H := ia_ H; obtain ⟨LMc6, H⟩ := H
     generalize e_ : ((aN ++ [(⟨(aN.length : Int), 0, 40⟩ : S61)]) : List (S61)) = M0 at H
     have Ny310 := aa_.mk e_.symm; clear e_
     have H' := aa_.mk H
     clear H
     obtain ⟨jA, dN, NX⟩ := Kd.pW_ aA.out
     subst NX
     go_wp2_with (((with_reducible refine bh_ (b := .append) (xs := #[.tmp 13, .tmp 17]) rfl ?_); at_builtin; refine fy_ w.heap.size (.tmp 13) (.tmp 17) (.slice jA aN.length dN) aN (⟨(aN.length : Int), 0, 40⟩ : S61) [.int .i64 (aN.length : Int), .int .i64 0, .int .i64 40] (fun _ => True) rfl rfl ?aP ?aF ?aO (Below.refl _ _) ?aS ?aL ?_; (case aP => exact b9_ _ _ _ (⟨(aN.length : Int), 0, 40⟩ : S61)); (case aF => exact (fun _ _ => trivial)); (case aO => exact (Z1 aA)); (case aS => exact (a9_ (w := w) (g := g) (row := none) (Z6))); (case aL => exact Z91 LMc6); intro v311 w8 ho hb hg hat; rw [← Ny310.out] at ho; refine k4_ (aj_.grown (Z4 HI0) hg (aj_.own_ne HI0.out aA.out (by decide))) (cN_ (Z7) HL.out hb) (ag_.trans (Z6) (ag_.of_grown hg g) (Kd.qk_ aA.out)) (ho) ?_; clear HI0 HB HK aA; intro HI0 HB HK HO312; clear ho hb hg hat))
     go_roundg k1
     case measure => have := HK1.out; omega
     case rel => exact ⟨(M0), H', ⟨Z91 HK1⟩, ⟨Z1 HO312⟩, ⟨Z4 HI0⟩, ⟨Z6⟩, ⟨Z7⟩⟩
    have dp : decide ((aN.length : Int) < 20) = false := decide_eq_false c5
    have uQ : decide (aN.length < 20) = false := decide_eq_false (by omega)
    clear c5
    replace H := ig_ H; obtain ⟨c9, H⟩ := H
    have gP : decide (19 < (aN.length : Int)) = true := decide_eq_true c9
    have pF : decide (19 < aN.length) = true := decide_eq_true (by omega)
    clear c9
    replace H := bd_ H; obtain ⟨⟨BC, M1, M2⟩, NU, H⟩ := H
    (try dsimp only at H)
    generalize e_ : ((aN.set (19 : Int).toNat (⟨(ab_ aN 19).f0, (ab_ aN 19).f1, wrap64 (((ab_ aN 19).f2) + BC)⟩ : S61)) : List (S61)) = y317 at H
    have Ny317 := aa_.mk e_.symm; clear e_
    obtain ⟨rfl, rfl, rfl⟩ := sq_ H; clear H
    obtain ⟨cO, bw, pI⟩ := Kd.pW_ aA.out
    subst pI
    try go_wp2
    refine k4_ (Kd.pZ_ aA.out) (aj_.drew HI0.out) (cb_ HK.out) (av_ HB.out) ?_
    clear aA HI0 HK HB
    intro aA HI0 HK HB
    have Db : 0 ≤ (19 : Int) := (by omega)
    have Dc : 19 < (aN.length : Int) := of_decide_eq_true (Z8)
    obtain ⟨ny, e313, gE, gF, gG⟩ := di_ (Kd.pV_ aA.out).2.2 19 Db Dc
    cases e313
    (try simp only [show (19 : Int).toNat = 19 from rfl, Nat.reduceMul, Nat.reduceEqDiff, Go.Addr.add, ↓reduceIte] at gE)
    (try simp only [show (19 : Int).toNat = 19 from rfl, Nat.reduceMul, Nat.reduceEqDiff, Go.Addr.add, ↓reduceIte] at gF)
    (try simp only [show (19 : Int).toNat = 19 from rfl, Nat.reduceMul, Nat.reduceEqDiff, Go.Addr.add, ↓reduceIte] at gG)
    have qi313 : (19 < aN.length) = True := eq_true (by omega)
    (try rw [show ((19 : Int)).toNat = 19 from rfl] at gE)
    (try rw [show 19 * 3 = 57 from rfl] at gE)
    (try rw [show ((19 : Int)).toNat = 19 from rfl] at gF)
    (try rw [show 19 * 3 = 57 from rfl] at gF)
    (try rw [show ((19 : Int)).toNat = 19 from rfl] at gG)
    (try rw [show 19 * 3 = 57 from rfl] at gG)
    replace Db := eq_true Db
    replace Dc := eq_true Dc
    refine b2_ (n := 10) (S := fun w' => w'.cell? ⟨ny.block, ny.off + 57, none⟩ = some (.int .i64 ((ab_ aN 19).f0)) ∧ w'.cell? ⟨ny.block, ny.off + 57 + 1, none⟩ = some (.int .i64 ((ab_ aN 19).f1)) ∧ w'.cell? ⟨ny.block, ny.off + 57 + 2, none⟩ = some (.int .i64 ((ab_ aN 19).f2))) (ds := [9]) (M_ 0 10) (by kernel_rfl) rfl rfl ⟨gE, gF, gG⟩ (fun hHeld => ?_); refine bz_ ad_.tab5 ad_.bits5 (fun HT_ HW_ => ?_)
    generalize wr.drew = oE at aA HI0 HK HB gE gF gG hHeld ⊢
    refine pu_ 0 19 (M_ 1 9) ?_
    refine pu_ 1 20 (M_ 2 8) ?_
    refine pu_ 2 21 (M_ 3 7) ?_
    refine pu_ 4 23 (N_ 10 23) ?_
    refine fX_ 3 22 (M_ 5 5) hHeld ?_
    refine on_ 5 (some 24) (M_ 6 4) (fun K hK => ?_)
    refine cs_ Tryz.func39 (by kernel_rfl) rfl #[.pointer (some ⟨g, 0, none⟩), .int .i64 2] (by rfl) rfl rfl (Z43) ?_
    with_reducible refine (ar_.calls g s0_0 uj uk 2 BC M1 M2 w0 _ ?side1 ?side2 NU.out).mono ?_
    (case side1 => exact Z4 HI0)
    (case side2 => exact Z7)
    rintro e xg ⟨rfl, hi, hb, hk⟩
    have HS0_ := cR_ hk (hHeld.1) (Z95)
    have HS1_ := cR_ hk (hHeld.2.1) (Z95)
    have HS2_ := cR_ hk (hHeld.2.2) (Z95)
    refine ⟨_, rfl, ?_⟩
    refine k4_ (Wm_ aA) Wk_ (hb) (hi) ?_
    clear aA HK HB HI0
    intro aA HK HB HI0
    (try clear hb)
    (try clear hk)
    (try clear hi)
    have MJ : 0 ≤ (19 : Int) := (by omega)
    have MK : (19 : Int) < ((aN.length : Int) : Int) := of_decide_eq_true (Z8)
    have qi11 : (19 < aN.length) = True := eq_true (by omega)
    obtain ⟨go11, co11, CY, M3, gl11, cl11, HG11⟩ := Kd.qs_ aA.out (by omega)
    (first | cases CY | (injection CY with ea_ en_ ec_; (first | subst ea_ | (injection ea_ with ea_; subst ea_)); subst ec_; clear en_))
    have GB11 := aa_.mk M3
    have GG11 := aa_.mk HG11
    clear M3 gl11 HG11
    (first | simp only [bO_] at gE | skip)
    (first | simp only [bO_] at gF | skip)
    (first | simp only [bO_] at gG | skip)
    obtain ⟨ce11, hcl11, hM11, hcc11, hfr11⟩ := Kd.qm_ aA.out z61 (19 : Int) MJ MK
    obtain rfl := c6_ hM11
    have vR : World.cell? _ ⟨go11, (19 : Int).toNat * 3, none⟩ = some (.int .i64 ((ab_ aN 19).f0)) := hcc11 0 _ rfl
    have vS : World.cell? _ ⟨go11, (19 : Int).toNat * 3 + 1, none⟩ = some (.int .i64 ((ab_ aN 19).f1)) := hcc11 1 _ rfl
    have vT : World.cell? _ ⟨go11, (19 : Int).toNat * 3 + 2, none⟩ = some (.int .i64 ((ab_ aN 19).f2)) := hcc11 2 _ rfl
    have hf11_0 : World.frozen? _ ⟨go11, (19 : Int).toNat * 3, none⟩ = false := hfr11 0
    have hf11_1 : World.frozen? _ ⟨go11, (19 : Int).toNat * 3 + 1, none⟩ = false := hfr11 1
    have hf11_2 : World.frozen? _ ⟨go11, (19 : Int).toNat * 3 + 2, none⟩ = false := hfr11 2
    clear hcl11 hcc11 hfr11 hM11
    (try rw [show ((19 : Int)).toNat = 19 from rfl] at vR)
    (try simp only [Nat.reduceMul, Nat.zero_mul, Nat.zero_add, Nat.reduceAdd] at vR)
    (try rw [show ((19 : Int)).toNat = 19 from rfl] at hf11_0)
    (try simp only [Nat.reduceMul, Nat.zero_mul, Nat.zero_add, Nat.reduceAdd] at hf11_0)
    (try rw [show ((19 : Int)).toNat = 19 from rfl] at vS)
    (try simp only [Nat.reduceMul, Nat.zero_mul, Nat.zero_add, Nat.reduceAdd] at vS)
    (try rw [show ((19 : Int)).toNat = 19 from rfl] at hf11_1)
    (try simp only [Nat.reduceMul, Nat.zero_mul, Nat.zero_add, Nat.reduceAdd] at hf11_1)
    (try rw [show ((19 : Int)).toNat = 19 from rfl] at vT)
    (try simp only [Nat.reduceMul, Nat.zero_mul, Nat.zero_add, Nat.reduceAdd] at vT)
    (try rw [show ((19 : Int)).toNat = 19 from rfl] at hf11_2)
    (try simp only [Nat.reduceMul, Nat.zero_mul, Nat.zero_add, Nat.reduceAdd] at hf11_2)
    replace MJ := eq_true MJ
    replace MK := eq_true MK
    have HN0_go11 := aa_.mk (show g ≠ go11 from by have h_ := aj_.own_ne HI0.out aA.out (by decide); intro e_; exact h_ (by rw [e_]; rfl))
    obtain ⟨ce15, hcl15, hM15, hcc15, hfr15⟩ := Kd.qm_ aA.out z61 (19 : Int) (by omega) (o0_)
    obtain rfl := c6_ hM15
    have HP15 := (Kd.qx_ aA.out (19 : Int) (by omega) (o0_) (seg := [.int .i64 (wrap64 (((ab_ aN 19).f2) + BC))]) (j := 2) hcl15 hcc15 (show 3 ≤ 3 from by decide) (x' := (⟨(ab_ aN 19).f0, (ab_ aN 19).f1, wrap64 (((ab_ aN 19).f2) + BC)⟩ : S61)) (b9_ _ _ _ (⟨(ab_ aN 19).f0, (ab_ aN 19).f1, wrap64 (((ab_ aN 19).f2) + BC)⟩ : S61) ) (fun _ hk => hk)).1
    rw [← Ny317.out] at HP15
    have HQ15 := aa_.mk HP15
    clear hcl15 hcc15 hfr15 hM15 HP15
    refine hK.out _ _ ⟨HS0_, HS1_, HS2_⟩ (fun hHeld => ?_)
    clear hK K
    refine nm_ 24 ?_
    refine pu_ 6 25 (M_ 7 3) ?_
    refine pu_ 7 26 (M_ 8 2) ?_
    refine pu_ 8 27 (M_ 9 1) ?_
    refine g9_ (i := 9) (N := none) (M_ 10 0) rfl rfl (fP_ HT_.out (by kernel_rfl)) (by decide) (fun K hK => ?_)
    refine iU_ (w1 := ?_) (by rfl) rfl ?_ ?_
    rotate_left
    ·go_simp
     rfl
    refine hK.out _ _ ?_
    clear hK K
    refine cw_ (bS_ HT_.out (by kernel_rfl)) ?_
    try go_wp2
    go_ret
    exact ⟨_, Z9, Z1 HQ15, by repeat (first | (with_reducible first | exact HI0.out | apply aj_.alloc | apply aj_.drewN | apply aj_.drew | apply aj_.set_1 | apply aj_.set_2 | refine aj_.far ?_ HN0_go11.out _) | exact HI0.out), by repeat (first | (with_reducible first | exact HB.out | apply aC_ | apply aD_ | apply av_ | refine aK_ ?_ (Nat.le_trans HL.out GB11.out) | refine aK_ ?_ (aj_.ge HI0.out)) | exact HB.out), by repeat (first | (with_reducible first | exact HK.out | apply ag_.set_ | apply c4_ | apply cb_ | apply dy_ | refine eg_ ?_ GB11.out _) | exact HK.out)⟩
 replace H := bd_ H; obtain ⟨⟨bg, M4, M5⟩, NO, H⟩ := H
 (try dsimp only at H)
 have H' := aa_.mk H
 clear H
 go_enter Tryz.func27, Tryz.ntmps27
 go_wp2_with (first | ((with_reducible refine ae_ (f := 54) rfl ?_); refine gl_ 9 Tryz.func54 #[.pointer (some ⟨g, 0, none⟩), .int .i64 20] ?_; (with_reducible refine (bw_.calls g s0_0 s0_1 s0_2 20 false uj uk w0 _ ?_ ?_ A2.out).mono ?_); exact (Z4 HI0); exact Z7; rintro e oD ⟨rfl, hi, hb, hk⟩; refine ⟨_, rfl, ?_⟩; refine k3_ Wk_ (hb) (hi) ?_; clear HK HB HI0; intro HK HB HI0; (try clear hb hk hi)) | ((with_reducible refine ae_ (f := 55) rfl ?_); refine gl_ 30 Tryz.func55 #[.pointer (some ⟨g, 0, none⟩)] ?_; (with_reducible refine (ak_.calls k g s0_0 uj uk bg M4 M5 w0 _ ?_ ?_ NO.out).mono ?_); exact (Z4 HI0); exact Z7; rintro e Jj ⟨v319, rfl, ho0, hi, hb, hk⟩; refine ⟨_, rfl, ?_⟩; refine k4_ (Kd.pY_ ho0 (a9_ (w := w) (g := g) (row := none) (Z6))) Wk_ (hb) (hi) ?_; clear HK HB HI0; intro Gi HK HB HI0; (try clear hb hk hi ho0); obtain ⟨lV, gl, nE⟩ := Kd.pW_ Gi.out; subst nE))
 (try simp only [Act.put, List.setIfInBounds_toArray, List.set_cons_zero, List.set_cons_succ])
 go_loopg [3, 32] k (fun kq v3 v32 w' => ∃ (aN : List (S61)) (aX : Int) (bA : Int) (bB : Int), v32 = .int .i64 aX ∧ aa_ (ad_.l1 kq aN bg (bg.length : Int) aX s0_0 bA bB = some (r1, r2, r3)) ∧ aa_ (kq ≤ k) ∧ aa_ (Kd.R k61 61 w' w.heap.size (fun k_ => some k_ ≠ ((.slice lV bg.length gl) : Value).ownBlock) v3 aN) ∧ aa_ (Kd.R k61 61 w' w.heap.size (fun k_ => some k_ ≠ (v3 : Value).ownBlock) (.slice lV bg.length gl) bg) ∧ aa_ (aj_ w0 w' g s0_0 bA bB) ∧ aa_ (ag_ w w' g none) ∧ aa_ (Below w0.heap.size w0 w'))
 case atStart => exact ⟨(([] : List (S61))), (0), (M4), (M5), (Z14), H', ⟨Nat.le_refl _⟩, ⟨Z17⟩, ⟨og_ Gi⟩, ⟨Z4 HI0⟩, ⟨Z6⟩, ⟨Z7⟩⟩
 case round =>
  clear H'
  obtain ⟨aN, aX, bA, bB, rfl, HA, HK1, aA, bx, HI0, HK, HB⟩ := hrel
  cases gk with
  | zero => exact absurd HA.out (by simp [ad_.l1])
  | succ k1 =>
   have H := HA.out
   clear HA
   simp only [ad_.l1] at H
   replace H := iv_ H; obtain ⟨dS, H⟩ | ⟨dS, H⟩ := H
   ·replace H := id_ H; obtain ⟨mo, H⟩ := H
    replace H := id_ H; obtain ⟨o0, H⟩ := H
    have HC23 := aa_.mk H
    clear H
    obtain ⟨xb, e323, hx323_0, hx323_1, hx323_2, Dd, De⟩ := d0_ (Kd.pV_ bx.out).2.2 aX
    cases e323
    go_upto_region 10 with (((with_reducible refine au_ (N := 5) rfl ?_); refine bv_ 5 61 #[.int .i64 0, .int .i64 0, .int .i64 0] ?_; intro bT hg cP hbox hb; refine pI_ (Kd.p5_ (Kd.p6_ (Z1 aA) bT (Nat.le_of_eq hg.symm)) hb) (Kd.p5_ (Kd.p6_ (Z1 bx) bT (Nat.le_of_eq hg.symm)) hb) (aj_.below (Z4 HI0) hb) Wl_ (aq_ (Z7) hb) (hbox) ((Z88 : w.heap.size ≤ bT)) ((Nat.le_trans HW0.out (Z88 : w.heap.size ≤ bT) : w0.heap.size ≤ bT)) ((by rw [hg]; exact Nat.ne_of_lt (aj_.lt (show aj_ w0 _ g s0_0 bA bB from Z4 HI0)) : g ≠ bT)) ((by rw [hg]; exact Nat.ne_of_gt (aj_.lt (show aj_ w0 _ g s0_0 bA bB from Z4 HI0)) : bT ≠ g)) ?_; clear aA bx HI0 HK HB; intro aA bx HI0 HK HB bv GW324 GE324 fe eg; clear hb hbox hg; have hnb25 := eg.out; have hnc25 := fe.out; obtain ⟨qa, qb, hcz26_2, qc, qd, hfz26_2⟩ := bt_ (w := cP) bv.out))
    (try simp only [Act.put, List.setIfInBounds_toArray, List.set_cons_zero, List.set_cons_succ])
    go_cut [46] (fun v46 wc => ∃ (kq : Nat) (qE : Bool) (dm : Int) (dn : Int), v46 = .bool qE ∧ aa_ (ad_.j2 kq aN bg (bg.length : Int) aX qE s0_0 dm dn ((ab_ bg aX).f0) ((ab_ bg aX).f1) ((ab_ bg aX).f2) = some (r1, r2, r3)) ∧ aa_ (kq ≤ k1) ∧ aa_ (Kd.R k61 61 wc w.heap.size (fun k_ => some k_ ≠ ((.slice (some xb) bg.length gl) : Value).ownBlock ∧ k_ ≠ bT) u3 aN) ∧ aa_ (Kd.R k61 61 wc w.heap.size (fun k_ => some k_ ≠ (u3 : Value).ownBlock ∧ k_ ≠ bT) (.slice (some xb) bg.length gl) bg) ∧ aa_ (wc.heap[bT]? = some (.cells #[.int .i64 ((ab_ bg aX).f0), .int .i64 ((ab_ bg aX).f1), .int .i64 ((ab_ bg aX).f2)] 61 (0, 0))) ∧ aa_ (aj_ w0 wc g s0_0 dm dn) ∧ aa_ (ag_ w wc g none) ∧ aa_ (Below w0.heap.size w0 wc))
    case first =>
     have H := HC23.out
     clear HC23
     replace H := iv_ H; obtain ⟨d5, H⟩ | ⟨d5, H⟩ := H
     ·(first | rw [d5] | (simp only [bA_, ch_]; rw [d5]) | skip)
      replace H := bd_ H; obtain ⟨⟨M6, M7, M8⟩, DM, H⟩ := H
      (try dsimp only at H)
      have H' := aa_.mk H
      clear H
      have hnb29 := eg.out
      have hnc29 := fe.out
      obtain ⟨hcz30_0, hcz30_1, hcz30_2, hfz30_0, hfz30_1, hfz30_2⟩ := bt_ (w := cP) bv.out
      go_wp2_with ((go_at_call 54; (with_reducible refine (bw_.calls g s0_0 bA bB 20 M6 M7 M8 w0 _ ?_ ?_ DM.out).mono ?_); exact Z23; exact Z42; rintro e Ns ⟨rfl, hi, hb, hk⟩; refine k6_ (Kd.pX_ (Kd.p8_ (aj_.apart (show aj_ w0 _ g s0_0 bA bB from Z23) (oT_ aA) (by decide)) hk (fun _ h => h.2)) (fun _ h => h.1)) (Kd.pX_ (Kd.p8_ (aj_.apart (show aj_ w0 _ g s0_0 bA bB from Z23) (oT_ bx) (by decide)) hk (fun _ h => h.2)) (fun _ h => h.1)) (ag_.blk hk (g' := bT) (o := .cells #[.int .i64 ((ab_ bg aX).f0), .int .i64 ((ab_ bg aX).f1), .int .i64 ((ab_ bg aX).f2)] 61 (0, 0)) (Z92) eg.out (by simp)) (ag_.trans (Z31) hk (.inl rfl)) (hb) (hi) ?_; clear aA bx bv HK HB HI0; intro aA bx bv HK HB HI0; (try clear hb hk hi)))
      go_meet
      case rel => exact ⟨_, (!M6), (M7), (M8), (Z14), H', ⟨eL_ HK1⟩, ⟨Z1 aA⟩, ⟨Z1 bx⟩, ⟨Z5 bv⟩, ⟨Z23⟩, ⟨Z31⟩, ⟨Z42⟩⟩
     (first | rw [d5] | (simp only [bA_, ch_]; rw [d5]) | skip)
     have H' := aa_.mk H
     clear H
     have hnb32 := eg.out
     have hnc32 := fe.out
     obtain ⟨hcz33_0, hcz33_1, hcz33_2, hfz33_0, hfz33_1, hfz33_2⟩ := bt_ (w := cP) bv.out
     go_wp2
     go_meet
     case rel => exact ⟨_, (false), (bA), (bB), (Z14), H', ⟨eL_ HK1⟩, ⟨o1_ aA⟩, ⟨o1_ bx⟩, ⟨Z92⟩, ⟨Z23⟩, ⟨Z31⟩, ⟨Z42⟩⟩
    case rest =>
     clear HC23
     (try clear dS); (try clear mo); (try clear o0); (try clear qa); (try clear qb); (try clear hcz26_2); (try clear qc); (try clear qd); (try clear hfz26_2); (try clear hx323_0); (try clear hx323_1); (try clear hx323_2); (try clear Dd); (try clear De)
     obtain ⟨kq, qE, dm, dn, rfl, HA, yl, aA, bx, bv, HI0, HK, HB⟩ := hcut
     cases kq with
     | zero => exact absurd HA.out (by simp [ad_.j2])
     | succ un =>
      have H := HA.out
      clear HA
      simp only [ad_.j2] at H
      replace H := it_ H; obtain ⟨rfl, H⟩ | ⟨rfl, H⟩ := H
      ·replace H := bd_ H; obtain ⟨⟨lP, yh, yi⟩, yZ, H⟩ := H
       (try dsimp only at H)
       replace H := bd_ H; obtain ⟨⟨Jb, t334⟩, Om, H⟩ := H
       (try dsimp only at H)
       replace H := it_ H; obtain ⟨rfl, H⟩ | ⟨rfl, H⟩ := H
       ·have H' := aa_.mk H
        clear H
        try go_wp2
        refine k6_ (Kd.pZ_ aA.out) (Kd.pZ_ bx.out) (ax_ bv.out) (aj_.drew HI0.out) (cb_ HK.out) (av_ HB.out) ?_
        clear aA bx bv HI0 HK HB
        intro aA bx bv HI0 HK HB
        refine b2_ (n := 8) (S := fun w' => w'.cell? ⟨bT, 0, none⟩ = some (.int .i64 ((ab_ bg aX).f0)) ∧ w'.cell? ⟨bT, 1, none⟩ = some (.int .i64 ((ab_ bg aX).f1)) ∧ w'.cell? ⟨bT, 2, none⟩ = some (.int .i64 ((ab_ bg aX).f2))) (ds := [7]) (M_ 0 8) (by kernel_rfl) rfl rfl (cp_ bv.out) (fun hHeld => ?_); refine bz_ ad_.tab11 ad_.bits11 (fun HT_ HW_ => ?_)
        generalize wc.drew = uP at aA bx bv HI0 HK HB hHeld ⊢
        refine pu_ 0 47 (M_ 1 7) ?_
        refine pu_ 3 50 (N_ 8 9) ?_
        refine fX_ 1 48 (N_ 8 11) hHeld ?_
        refine pu_ 2 49 (M_ 4 4) ?_
        refine on_ 4 (some 51) (M_ 5 3) (fun K hK => ?_)
        refine cs_ Tryz.func39 (by kernel_rfl) rfl #[.pointer (some ⟨g, 0, none⟩), .int .i64 5] (by rfl) rfl rfl (Z43) ?_
        with_reducible refine (ar_.calls g s0_0 dm dn 5 lP yh yi w0 _ ?side1 ?side2 yZ.out).mono ?_
        (case side1 => exact Z23)
        (case side2 => exact Z42)
        rintro e yx ⟨rfl, hi, hb, hk⟩
        refine ⟨_, rfl, ?_⟩
        refine k6_ (Kd.pX_ (Kd.p8_ (aj_.apart (show aj_ w0 _ g s0_0 dm dn from Z23) (Z1 aA) (by decide)) hk (fun _ h => h.2)) (fun _ h => h.1)) (Kd.pX_ (Kd.p8_ (aj_.apart (show aj_ w0 _ g s0_0 dm dn from Z23) (Z1 bx) (by decide)) hk (fun _ h => h.2)) (fun _ h => h.1)) (ag_.blk hk (zo_ bv) eg.out (by simp)) (ag_.trans (Z31) hk (.inl rfl)) (hb) (hi) ?_
        clear aA bx bv HK HB HI0
        intro aA bx bv HK HB HI0
        (try clear hb)
        (try clear hk)
        (try clear hi)
        refine hK.out _ _ (cp_ bv.out) (fun hHeld => ?_)
        clear hK K
        refine nm_ 51 ?_
        refine pu_ 5 52 (M_ 6 2) ?_
        refine pu_ 6 53 (M_ 7 1) ?_
        refine g9_ (i := 7) (N := none) (M_ 8 0) rfl rfl (fP_ HT_.out (by kernel_rfl)) (by decide) (fun K hK => ?_)
        have hs40 : yx.cell? ⟨bT, 2, none⟩ = some (.int .i64 ((ab_ bg aX).f2)) := (aE_ bv.out 2).trans rfl
        have hfs40 := a1_ bv.out 2
        refine iU_ (w1 := ?_) (by rfl) rfl ?_ ?_
        rotate_left
        ·go_simp
         rfl
        refine hK.out _ _ ?_
        clear hK K
        refine cw_ (bS_ HT_.out (by kernel_rfl)) ?_
        have hnb41 := eg.out
        have hnc41 := fe.out
        obtain ⟨hcz42_0, hcz42_1, hcz42_2, hfz42_0, hfz42_1, hfz42_2⟩ := bt_ (w := yx) bv.out
        obtain ⟨Ao43, Na, eo43⟩ := Kd.pW_ aA.out
        subst eo43
        try go_wp2_with (((with_reducible refine ae_ (f := 56) rfl ?_); refine gl_ 57 Tryz.func56 #[.slice Ao43 aN.length Na, .agg #[.int .i64 ((ab_ bg aX).f0), .int .i64 ((ab_ bg aX).f1), .int .i64 (wrap64 ((wrap64 (((ab_ bg aX).f1) + 4)) + lP))]] ?_; (with_reducible refine (a8_.calls un _ _ aN ((ab_ bg aX).f0) ((ab_ bg aX).f1) (wrap64 ((wrap64 (((ab_ bg aX).f1) + 4)) + lP)) Jb true _ ?_ ?_ Om.out).mono ?_); exact (by refine (Kd.pV_ (e := 61) (base := w.heap.size) (ok := fun k_ => (some k_ ≠ (.slice (some xb) bg.length gl : Value).ownBlock ∧ k_ ≠ bT)) (n := aN.length) (c := Na) ?_).2.2; exact (Z34 aA)); exact (Kd.pV_ aA.out).2.1; rintro e Ok ⟨v332, rfl, ho0, hb⟩; refine ⟨_, rfl, ?_⟩; refine k7_ (Kd.qc_ (Z34 aA) (Kd.p9_ ho0) hb) (Kd.qc_ (Z34 bx) (Kd.p9_ ho0) hb) (Kd.pY_ (Kd.qa_ (Kd.p3_ (Kd.p3_ ho0 (Kd.qr_ (Z34 aA))) (Kd.qr_ (Z34 bx))) (g := bT) (o := .cells #[.int .i64 ((ab_ bg aX).f0), .int .i64 ((ab_ bg aX).f1), .int .i64 (wrap64 ((wrap64 (((ab_ bg aX).f1) + 4)) + lP))] 61 (0, 0)) (Z77)) (a9_ (w := w) (g := g) (row := none) (Z31))) (cj_ (g := bT) (o := .cells #[.int .i64 ((ab_ bg aX).f0), .int .i64 ((ab_ bg aX).f1), .int .i64 (wrap64 ((wrap64 (((ab_ bg aX).f1) + 4)) + lP))] 61 (0, 0)) (Z77) hb) (aj_.below (show aj_ w0 (yx.setCell ⟨bT, 2, none⟩ (.int .i64 (wrap64 ((wrap64 (((ab_ bg aX).f1) + 4)) + lP)))) g s0_0 yh yi from Z23) hb) (ag_.trans (Z31) (ag_.of_below hb g none) (.inl rfl)) (aq_ (Z42) hb) ?_; clear aA bx bv HI0 HK HB; intro aA bx Gj bv HI0 HK HB; (try clear hb ho0)))
        go_roundg un
        case measure => have := HK1.out; have := yl.out; omega
        case rel => exact ⟨(Jb), (wrap64 (aX + 1)), (yh), (yi), (Z14), H', ⟨kU_⟩, ⟨by (with_reducible repeat (first | apply Kd.p1_ | apply Kd.p0_ | apply Kd.pZ_)); exact Kd.pX_ Gj.out (fun _ hk => hk.1.2)⟩, ⟨Z61 bx⟩, ⟨Z23⟩, ⟨Z31⟩, ⟨Z42⟩⟩
       have H' := aa_.mk H
       clear H
       try go_wp2
       refine k6_ (Kd.pZ_ aA.out) (Kd.pZ_ bx.out) (ax_ bv.out) (aj_.drew HI0.out) (cb_ HK.out) (av_ HB.out) ?_
       clear aA bx bv HI0 HK HB
       intro aA bx bv HI0 HK HB
       refine b2_ (n := 8) (S := fun w' => w'.cell? ⟨bT, 0, none⟩ = some (.int .i64 ((ab_ bg aX).f0)) ∧ w'.cell? ⟨bT, 1, none⟩ = some (.int .i64 ((ab_ bg aX).f1)) ∧ w'.cell? ⟨bT, 2, none⟩ = some (.int .i64 ((ab_ bg aX).f2))) (ds := [7]) (M_ 0 8) (by kernel_rfl) rfl rfl (cp_ bv.out) (fun hHeld => ?_); refine bz_ ad_.tab11 ad_.bits11 (fun HT_ HW_ => ?_)
       generalize wc.drew = Nw at aA bx bv HI0 HK HB hHeld ⊢
       refine pu_ 0 47 (M_ 1 7) ?_
       refine pu_ 3 50 (N_ 8 9) ?_
       refine fX_ 1 48 (N_ 8 11) hHeld ?_
       refine pu_ 2 49 (M_ 4 4) ?_
       refine on_ 4 (some 51) (M_ 5 3) (fun K hK => ?_)
       refine cs_ Tryz.func39 (by kernel_rfl) rfl #[.pointer (some ⟨g, 0, none⟩), .int .i64 5] (by rfl) rfl rfl (Z43) ?_
       with_reducible refine (ar_.calls g s0_0 dm dn 5 lP yh yi w0 _ ?side1 ?side2 yZ.out).mono ?_
       (case side1 => exact Z23)
       (case side2 => exact Z42)
       rintro e yk ⟨rfl, hi, hb, hk⟩
       refine ⟨_, rfl, ?_⟩
       refine k6_ (Kd.pX_ (Kd.p8_ (aj_.apart (show aj_ w0 _ g s0_0 dm dn from Z23) (Z1 aA) (by decide)) hk (fun _ h => h.2)) (fun _ h => h.1)) (Kd.pX_ (Kd.p8_ (aj_.apart (show aj_ w0 _ g s0_0 dm dn from Z23) (Z1 bx) (by decide)) hk (fun _ h => h.2)) (fun _ h => h.1)) (ag_.blk hk (zo_ bv) eg.out (by simp)) (ag_.trans (Z31) hk (.inl rfl)) (hb) (hi) ?_
       clear aA bx bv HK HB HI0
       intro aA bx bv HK HB HI0
       (try clear hb)
       (try clear hk)
       (try clear hi)
       refine hK.out _ _ (cp_ bv.out) (fun hHeld => ?_)
       clear hK K
       refine nm_ 51 ?_
       refine pu_ 5 52 (M_ 6 2) ?_
       refine pu_ 6 53 (M_ 7 1) ?_
       refine g9_ (i := 7) (N := none) (M_ 8 0) rfl rfl (fP_ HT_.out (by kernel_rfl)) (by decide) (fun K hK => ?_)
       have hs47 : yk.cell? ⟨bT, 2, none⟩ = some (.int .i64 ((ab_ bg aX).f2)) := (aE_ bv.out 2).trans rfl
       have hfs47 := a1_ bv.out 2
       refine iU_ (w1 := ?_) (by rfl) rfl ?_ ?_
       rotate_left
       ·go_simp
        rfl
       refine hK.out _ _ ?_
       clear hK K
       refine cw_ (bS_ HT_.out (by kernel_rfl)) ?_
       have hnb48 := eg.out
       have hnc48 := fe.out
       obtain ⟨hcz49_0, hcz49_1, hcz49_2, hfz49_0, hfz49_1, hfz49_2⟩ := bt_ (w := yk) bv.out
       obtain ⟨Ao50, Nb, eo50⟩ := Kd.pW_ aA.out
       subst eo50
       try go_wp2_with (((with_reducible refine ae_ (f := 56) rfl ?_); refine gl_ 57 Tryz.func56 #[.slice Ao50 aN.length Nb, .agg #[.int .i64 ((ab_ bg aX).f0), .int .i64 ((ab_ bg aX).f1), .int .i64 (wrap64 ((wrap64 (((ab_ bg aX).f1) + 4)) + lP))]] ?_; (with_reducible refine (a8_.calls un _ _ aN ((ab_ bg aX).f0) ((ab_ bg aX).f1) (wrap64 ((wrap64 (((ab_ bg aX).f1) + 4)) + lP)) Jb false _ ?_ ?_ Om.out).mono ?_); exact (by refine (Kd.pV_ (e := 61) (base := w.heap.size) (ok := fun k_ => (some k_ ≠ (.slice (some xb) bg.length gl : Value).ownBlock ∧ k_ ≠ bT)) (n := aN.length) (c := Nb) ?_).2.2; exact (Z34 aA)); exact (Kd.pV_ aA.out).2.1; rintro e Ol ⟨v332, rfl, ho0, hb⟩; refine ⟨_, rfl, ?_⟩; refine k7_ (Kd.qc_ (Z34 aA) (Kd.p9_ ho0) hb) (Kd.qc_ (Z34 bx) (Kd.p9_ ho0) hb) (Kd.pY_ (Kd.qa_ (Kd.p3_ (Kd.p3_ ho0 (Kd.qr_ (Z34 aA))) (Kd.qr_ (Z34 bx))) (g := bT) (o := .cells #[.int .i64 ((ab_ bg aX).f0), .int .i64 ((ab_ bg aX).f1), .int .i64 (wrap64 ((wrap64 (((ab_ bg aX).f1) + 4)) + lP))] 61 (0, 0)) (Z77)) (a9_ (w := w) (g := g) (row := none) (Z31))) (cj_ (g := bT) (o := .cells #[.int .i64 ((ab_ bg aX).f0), .int .i64 ((ab_ bg aX).f1), .int .i64 (wrap64 ((wrap64 (((ab_ bg aX).f1) + 4)) + lP))] 61 (0, 0)) (Z77) hb) (aj_.below (show aj_ w0 (yk.setCell ⟨bT, 2, none⟩ (.int .i64 (wrap64 ((wrap64 (((ab_ bg aX).f1) + 4)) + lP)))) g s0_0 yh yi from Z23) hb) (ag_.trans (Z31) (ag_.of_below hb g none) (.inl rfl)) (aq_ (Z42) hb) ?_; clear aA bx bv HI0 HK HB; intro aA bx Gj bv HI0 HK HB; (try clear hb ho0)))
       go_roundg un
       case measure => have := HK1.out; have := yl.out; omega
       case rel => exact ⟨(aN), (wrap64 (aX + 1)), (yh), (yi), (Z14), H', ⟨kU_⟩, ⟨lk_ aA⟩, ⟨lk_ bx⟩, ⟨Z23⟩, ⟨Z31⟩, ⟨Z42⟩⟩
      replace H := bd_ H; obtain ⟨⟨Jc, t338⟩, On, H⟩ := H
      (try dsimp only at H)
      replace H := it_ H; obtain ⟨rfl, H⟩ | ⟨rfl, H⟩ := H
      ·have H' := aa_.mk H
       clear H
       have hnb54 := eg.out
       have hnc54 := fe.out
       obtain ⟨hcz55_0, hcz55_1, hcz55_2, hfz55_0, hfz55_1, hfz55_2⟩ := bt_ (w := wc) bv.out
       obtain ⟨CG, CH, vE⟩ := Kd.pW_ aA.out
       subst vE
       go_wp2_with (((with_reducible refine ae_ (f := 56) rfl ?_); refine gl_ 57 Tryz.func56 #[.slice CG aN.length CH, .agg #[.int .i64 ((ab_ bg aX).f0), .int .i64 ((ab_ bg aX).f1), .int .i64 ((ab_ bg aX).f2)]] ?_; (with_reducible refine (a8_.calls un _ _ aN ((ab_ bg aX).f0) ((ab_ bg aX).f1) ((ab_ bg aX).f2) Jc true _ ?_ ?_ On.out).mono ?_); exact (Z3 aA); exact (Kd.pV_ aA.out).2.1; rintro e w57 ⟨v336, rfl, ho0, hb⟩; refine ⟨_, rfl, ?_⟩; refine k7_ (Yb_ aA) (Yb_ bx) (Kd.pY_ (Kd.qa_ (Kd.p3_ (Kd.p3_ ho0 (Yd_ aA)) (Yd_ bx)) (zo_ bv)) (a9_ (w := w) (g := g) (row := none) (Z31))) (Ye_ bv) (aj_.below (Z23) hb) (ag_.trans (Z31) (ag_.of_below hb g none) (.inl rfl)) (aq_ (Z42) hb) ?_; clear aA bx bv HI0 HK HB; intro aA bx Gk bv HI0 HK HB; (try clear hb ho0)))
       go_roundg un
       case measure => have := HK1.out; have := yl.out; omega
       case rel => exact ⟨(Jc), (wrap64 (aX + 1)), (dm), (dn), (Z14), H', ⟨kU_⟩, ⟨by (with_reducible repeat (first | apply Kd.p1_ | apply Kd.p0_ | apply Kd.pZ_)); exact Kd.pX_ Gk.out (fun _ hk => hk.1.2)⟩, ⟨Z61 bx⟩, ⟨Z23⟩, ⟨Z31⟩, ⟨Z42⟩⟩
      have H' := aa_.mk H
      clear H
      have hnb58 := eg.out
      have hnc58 := fe.out
      obtain ⟨hcz59_0, hcz59_1, hcz59_2, hfz59_0, hfz59_1, hfz59_2⟩ := bt_ (w := wc) bv.out
      obtain ⟨Ao60, co60, eo60⟩ := Kd.pW_ aA.out
      subst eo60
      go_wp2_with (((with_reducible refine ae_ (f := 56) rfl ?_); refine gl_ 57 Tryz.func56 #[.slice Ao60 aN.length co60, .agg #[.int .i64 ((ab_ bg aX).f0), .int .i64 ((ab_ bg aX).f1), .int .i64 ((ab_ bg aX).f2)]] ?_; (with_reducible refine (a8_.calls un _ _ aN ((ab_ bg aX).f0) ((ab_ bg aX).f1) ((ab_ bg aX).f2) Jc false _ ?_ ?_ On.out).mono ?_); exact (Z3 aA); exact (Kd.pV_ aA.out).2.1; rintro e Nq ⟨v336, rfl, ho0, hb⟩; refine ⟨_, rfl, ?_⟩; refine k7_ (Yb_ aA) (Yb_ bx) (Kd.pY_ (Kd.qa_ (Kd.p3_ (Kd.p3_ ho0 (Yd_ aA)) (Yd_ bx)) (zo_ bv)) (a9_ (w := w) (g := g) (row := none) (Z31))) (Ye_ bv) (aj_.below (Z23) hb) (ag_.trans (Z31) (ag_.of_below hb g none) (.inl rfl)) (aq_ (Z42) hb) ?_; clear aA bx bv HI0 HK HB; intro aA bx Gk bv HI0 HK HB; (try clear hb ho0)))
      go_roundg un
      case measure => have := HK1.out; have := yl.out; omega
      case rel => exact ⟨(aN), (wrap64 (aX + 1)), (dm), (dn), (Z14), H', ⟨kU_⟩, ⟨lk_ aA⟩, ⟨lk_ bx⟩, ⟨Z23⟩, ⟨Z31⟩, ⟨Z42⟩⟩
   replace H := bd_ H; obtain ⟨⟨t339, BD, BE⟩, Oo, H⟩ := H
   (try dsimp only at H)
   replace H := it_ H; obtain ⟨rfl, H⟩ | ⟨rfl, H⟩ := H
   ·replace H := bd_ H; obtain ⟨⟨t342, t345, t346⟩, A64, H⟩ := H
    (try dsimp only at H)
    obtain ⟨rfl, rfl, rfl⟩ := sq_ H; clear H
    go_wp2_with (first | ((with_reducible refine ae_ (f := 54) rfl ?_); refine gl_ 64 Tryz.func54 #[.pointer (some ⟨g, 0, none⟩), .int .i64 16] ?_; (with_reducible refine (bw_.calls g s0_0 bA bB 16 true BD BE w0 _ ?_ ?_ Oo.out).mono ?_); exact (Z4 HI0); exact Z7; rintro e Nr ⟨rfl, hi, hb, hk⟩; refine ⟨_, rfl, ?_⟩; refine k5_ (Wm_ aA) (Wm_ bx) Wk_ (hb) (hi) ?_; clear aA bx HK HB HI0; intro aA bx HK HB HI0; (try clear hb hk hi)) | ((with_reducible refine ae_ (f := 57) rfl ?_); refine gl_ 66 Tryz.func57 #[.pointer (some ⟨g, 0, none⟩)] ?_; (with_reducible refine (aA_.calls k1 g s0_0 BD BE t342 t345 t346 w0 _ ?_ ?_ A64.out).mono ?_); exact (Z4 HI0); exact Z7; rintro e w66 ⟨v343, rfl, ho0, hi, hb, hk⟩; refine ⟨_, rfl, ?_⟩; refine k6_ (Kd.pX_ (Kd.qI_ (Kd.qJ_ (aj_.apart (show aj_ w0 _ g s0_0 BD BE from Z4 HI0) (Z1 aA) (by decide)) hk) (Kd.p9_ ho0)) (fun _ h_ => h_.1)) (Kd.pX_ (Kd.qI_ (Kd.qJ_ (aj_.apart (show aj_ w0 _ g s0_0 BD BE from Z4 HI0) (Z1 bx) (by decide)) hk) (Kd.p9_ ho0)) (fun _ h_ => h_.1)) (Kd.pY_ (Kd.p3_ (Kd.p3_ ho0 (Yd_ aA)) (Yd_ bx)) (a9_ (w := w) (g := g) (row := none) (Z6))) Wk_ (hb) (hi) ?_; clear aA bx HK HB HI0; intro aA bx HO344 HK HB HI0; (try clear hb hk hi ho0)))
    go_ret
    exact ⟨_, Z9, Z38 HO344, Z4 HI0, Z7, Z6⟩
   obtain ⟨rfl, rfl, rfl⟩ := sq_ H; clear H
   go_wp2_with (((with_reducible refine ae_ (f := 54) rfl ?_); refine gl_ 64 Tryz.func54 #[.pointer (some ⟨g, 0, none⟩), .int .i64 16] ?_; (with_reducible refine (bw_.calls g s0_0 bA bB 16 false BD BE w0 _ ?_ ?_ Oo.out).mono ?_); exact (Z4 HI0); exact Z7; rintro e w67 ⟨rfl, hi, hb, hk⟩; refine ⟨_, rfl, ?_⟩; refine k5_ (Wm_ aA) (Wm_ bx) Wk_ (hb) (hi) ?_; clear aA bx HK HB HI0; intro aA bx HK HB HI0; (try clear hb hk hi)))
   go_ret
   exact ⟨_, Z9, Z38 aA, Z4 HI0, Z7, Z6⟩
end Go.Proofs.YtcpliaahkcbinaaGreatDoor.PFnStrokes
