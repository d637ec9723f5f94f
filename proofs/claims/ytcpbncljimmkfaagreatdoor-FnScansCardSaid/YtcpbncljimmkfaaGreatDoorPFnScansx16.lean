-- written by a program of this session: the kit's print, with outer functions of the session's own (wip/ext)
import Derived.Test.YtcpbncljimmkfaaGreatDoorPFnScansx0
import Derived.Test.YtcpbncljimmkfaaGreatDoorPFnScansx1
import Derived.Test.YtcpbncljimmkfaaGreatDoorPFnScansx2
import Derived.Test.YtcpbncljimmkfaaGreatDoorPFnScansx4
import Derived.Test.YtcpbncljimmkfaaGreatDoorPFnScansx12
import Derived.Test.YtcpbncljimmkfaaGreatDoorPFnScansx13
namespace Go.Proofs.YtcpbncljimmkfaaGreatDoor.PFnScans
open Go.RowKit Go.Proofs.YtcpbncljimmkfaaGreatDoorW.PrintWords Go.Proofs.YtcpbncljimmkfaaGreatDoorW.PrintLast Go.Proofs.YtcpbncljimmkfaaGreatDoorW.PrintMore
attribute [local go_sem] max2_int min2_int max_two min_two max_three min_three max_four min_four   -- for this text's walks alone
set_option linter.unusedVariables false
set_option linter.unusedSimpArgs false
theorem mo16_ {p : Prop} (h : p := by repeat' first | (with_reducible first | apply ih0 | apply ih0 | apply ih1 | apply ih1 | apply spec_DrawIsScan.mono | apply spec_DrawIsScan.mono | apply spec_l1Cur_scan.mono | apply spec_l1Cur_scan.mono | apply spec_scGood.mono | apply spec_scGood.mono | apply spec_scHoles.mono | apply spec_scHoles.mono | apply spec_shSorted.mono | apply spec_shSorted.mono | exact LeO.refl _ | exact LeO.none _ | refine LeO.ite ?_ ?_ | refine LeO.bind ?_ (fun _ => ?_)) | exact LeO.none _ | refine LeO.ite ?_ ?_ | refine LeO.bind ?_ (fun _ => ?_)) : p := h

attribute [local go_sem high] eqA55
/-! ### spec_scHoles: function 46 -/
mutual
def spec_scHoles.l0 : Nat → List ByteArray → List (S55) → Int → Option ((List (S55)) × Bool)
 | 0, _, _, _ => none
 | k + 1, x0, x4, x5 => if 0 < (x0.length : Int) then (if x5 < ((rdOf ByteArray.empty x0 0).size : Int) then (spec_scHoles.l1 k x0 x4 x5 x0 (x0.length : Int) 0) else ((spec_shSorted.f k x4).bind fun v0 => (some (v0.1, v0.2)))) else (none)
def spec_scHoles.l1 : Nat → List ByteArray → List (S55) → Int → List ByteArray → Int → Int → Option ((List (S55)) × Bool)
 | 0, _, _, _, _, _, _ => none
 | k + 1, x0, x4, x5, x17, x18, x19 => if x19 < x18 then (if 0 ≤ x19 then (if x19 < (x17.length : Int) then (if 0 ≤ x5 then (if x5 < ((rdOf ByteArray.empty x17 x19).size : Int) then (if (bt (rdOf ByteArray.empty x17 x19) x5) = 63 then (some (([] : List (S55)), false)) else (if (bt (rdOf ByteArray.empty x17 x19) x5) = 46 then (spec_scHoles.l1 k x0 x4 x5 x17 x18 (wrap64 (x19 + 1))) else (if (x4.length : Int) > 0 then (if 0 ≤ (wrap64 ((x4.length : Int) - 1)) then (if (wrap64 ((x4.length : Int) - 1)) < (x4.length : Int) then (if ((rd_T55 x4 (wrap64 ((x4.length : Int) - 1))).f0) = x5 then (if ((rd_T55 x4 (wrap64 ((x4.length : Int) - 1))).f2) = x19 then (spec_scHoles.l1 k x0 (x4.set ((wrap64 ((x4.length : Int) - 1)) : Int).toNat (⟨(rd_T55 x4 (wrap64 ((x4.length : Int) - 1))).f0, (rd_T55 x4 (wrap64 ((x4.length : Int) - 1))).f1, wrap64 (x19 + 1)⟩ : S55)) x5 x17 x18 (wrap64 (x19 + 1))) else (if x4.length < 5864062014805 then (spec_scHoles.l1 k x0 (x4 ++ [(⟨x5, x19, wrap64 (x19 + 1)⟩ : S55)]) x5 x17 x18 (wrap64 (x19 + 1))) else (none))) else (if x4.length < 5864062014805 then (spec_scHoles.l1 k x0 (x4 ++ [(⟨x5, x19, wrap64 (x19 + 1)⟩ : S55)]) x5 x17 x18 (wrap64 (x19 + 1))) else (none))) else (none)) else (none)) else (if x4.length < 5864062014805 then (spec_scHoles.l1 k x0 (x4 ++ [(⟨x5, x19, wrap64 (x19 + 1)⟩ : S55)]) x5 x17 x18 (wrap64 (x19 + 1))) else (none))))) else (none)) else (none)) else (none)) else (none)) else (spec_scHoles.l0 k x0 x4 (wrap64 (x5 + 1)))
end
def spec_scHoles.f (k : Nat) (l0 : List ByteArray) : Option ((List (S55)) × Bool) := spec_scHoles.l0 k l0 ([] : List (S55)) 0
theorem spec_scHoles.mono_l : ∀ k, (∀ y0 y1 y2, LeO (spec_scHoles.l0 k y0 y1 y2) (spec_scHoles.l0 (k + 1) y0 y1 y2)) ∧ (∀ y0 y1 y2 y3 y4 y5, LeO (spec_scHoles.l1 k y0 y1 y2 y3 y4 y5) (spec_scHoles.l1 (k + 1) y0 y1 y2 y3 y4 y5))
 | 0 => ⟨fun _ _ _ r h => by simp [spec_scHoles.l0] at h, fun _ _ _ _ _ _ r h => by simp [spec_scHoles.l1] at h⟩
 | k + 1 => by
  obtain ⟨ih0, ih1⟩ := spec_scHoles.mono_l k
  refine ⟨?_, ?_⟩
  ·intro y0 y1 y2
   unfold spec_scHoles.l0
   exact mo16_
  intro y0 y1 y2 y3 y4 y5
  unfold spec_scHoles.l1
  exact mo16_
theorem spec_scHoles.mono : ∀ a0 k, LeO (spec_scHoles.f k a0) (spec_scHoles.f (k + 1) a0) := by
 intro a0 k
 obtain ⟨ih0, ih1⟩ := spec_scHoles.mono_l k
 unfold spec_scHoles.f
 exact mo16_
set_option maxHeartbeats 8000000 in
set_option maxRecDepth 100000 in
theorem spec_scHoles.calls (k : Nat) (A0 : Option Addr) (c0 : Nat) (l0 : List ByteArray) (r1 : List (S55)) (r2 : Bool) (w : World) (hr0 : Kd.C Kd.string w A0 l0.length l0) (hc0 : l0.length ≤ c0) (h : spec_scHoles.f k l0 = some (r1, r2)) :
  Calls Tryz.prog 46 #[.slice A0 l0.length c0] w fun e w' => ∃ v0_ : Value, e = .returned (.tuple #[v0_, .bool r2]) ∧ Kd.R k55 55 w' w.heap.size (fun _ => True) v0_ r1 ∧ Below w.heap.size w w' := by
 have hu55 := Tryz.underlying55
 have HR0 := Aside0.mk hr0
 have HC0 := Aside0.mk hc0
 clear hr0 hc0
 have HB := Aside0.mk (Below.refl w.heap.size w)
 have H : (spec_scHoles.l0 k l0 ([] : List (S55)) 0) = some (r1, r2) := h
 clear h
 have H' := Aside0.mk H
 clear H
 go_enter Tryz.func46, Tryz.ntmps46
 go_wp2
 go_loopg [4, 5] k (fun kq v4 v5 w' => ∃ (ap : List (S55)) (ag : Int), v5 = .int .i64 ag ∧ Aside0 (spec_scHoles.l0 kq l0 ap ag = some (r1, r2)) ∧ Aside0 (kq ≤ k) ∧ Aside0 (Kd.R k55 55 w' w.heap.size (fun _ => True) v4 ap) ∧ Aside0 (Below w.heap.size w w'))
 case atStart => exact ⟨(([] : List (S55))), (0), (Z11), H', ⟨Nat.le_refl _⟩, ⟨Z15⟩, ⟨Z2⟩⟩
 case round =>
  clear H'
  obtain ⟨ap, ag, rfl, HA, HK1, ae, HB⟩ := hrel
  cases gk with
  | zero => exact absurd HA.out (by simp [spec_scHoles.l0])
  | succ k1 =>
   have H := HA.out
   clear HA
   simp only [spec_scHoles.l0] at H
   by_cases c2 : 0 < (l0.length : Int)
   case neg => rw [if_neg c2] at H; exact absurd H (by simp)
   rw [if_pos c2] at H
   have eu : decide (0 < (l0.length : Int)) = true := decide_eq_true c2
   have qG : decide (0 < l0.length) = true := decide_eq_true (by omega)
   clear c2
   by_cases c3 : ag < ((rdOf ByteArray.empty l0 0).size : Int)
   ·rw [if_pos c3] at H
    have bA : decide (ag < ((rdOf ByteArray.empty l0 0).size : Int)) = true := decide_eq_true c3
    clear c3
    have H' := Aside0.mk H
    clear H
    have mQ : 0 ≤ (0 : Int) := (by omega)
    have mR : 0 < (l0.length : Int) := of_decide_eq_true (Z8)
    obtain ⟨iV, e572, cy⟩ := Kd.at_string HR0.out 0 mQ mR
    cases e572
    have qi572 : (0 < l0.length) = True := eq_true (by omega)
    (try rw [show ((0 : Int)).toNat = 0 from rfl] at cy)
    (try rw [Addr.add_zero'] at cy)
    replace cy := (HB.out.cell (World.block_lt_of_cell? w _ cy)).trans cy
    replace mQ := eq_true mQ
    replace mR := eq_true mR
    go_wp2
    go_loopg [4, 19] k1 (fun kq v4 zZ w' => ∃ (ba : List (S55)) (ak : Int), zZ = .int .i64 ak ∧ Aside0 (spec_scHoles.l1 kq l0 ba ag l0 (l0.length : Int) ak = some (r1, r2)) ∧ Aside0 (kq ≤ k1) ∧ Aside0 (Kd.R k55 55 w' w.heap.size (fun _ => True) v4 ba) ∧ Aside0 (Below w.heap.size w w'))
    case atStart => exact ⟨(ap), (0), (Z11), H', ⟨Nat.le_refl _⟩, ⟨Z3 ae⟩, ⟨Z2⟩⟩
    case round =>
     clear H'
     (try clear c2); (try clear eu); (try clear qG); (try clear c3); (try clear bA); (try clear cy); (try clear mQ); (try clear mR)
     obtain ⟨ba, ak, rfl, HA, HK2, ae, HB⟩ := hrel
     cases gk with
     | zero => exact absurd HA.out (by simp [spec_scHoles.l1])
     | succ k2 =>
      have H := HA.out
      clear HA
      simp only [spec_scHoles.l1] at H
      by_cases c4 : ak < (l0.length : Int)
      ·rw [if_pos c4] at H
       have bZ : decide (ak < (l0.length : Int)) = true := decide_eq_true c4
       clear c4
       by_cases c5 : 0 ≤ ak
       case neg => rw [if_neg c5] at H; exact absurd H (by simp)
       rw [if_pos c5] at H
       have ci : decide (0 ≤ ak) = true := decide_eq_true c5
       clear c5
       by_cases c6 : ak < (l0.length : Int)
       case neg => rw [if_neg c6] at H; exact absurd H (by simp)
       rw [if_pos c6] at H
       have ck : decide (ak < (l0.length : Int)) = true := decide_eq_true c6
       clear c6
       by_cases c7 : 0 ≤ ag
       case neg => rw [if_neg c7] at H; exact absurd H (by simp)
       rw [if_pos c7] at H
       have cd : decide (0 ≤ ag) = true := decide_eq_true c7
       clear c7
       by_cases c8 : ag < ((rdOf ByteArray.empty l0 ak).size : Int)
       case neg => rw [if_neg c8] at H; exact absurd H (by simp)
       rw [if_pos c8] at H
       have ep : decide (ag < ((rdOf ByteArray.empty l0 ak).size : Int)) = true := decide_eq_true c8
       clear c8
       by_cases c10 : (bt (rdOf ByteArray.empty l0 ak) ag) = 63
       ·rw [if_pos c10] at H
        have b7 : ((bt (rdOf ByteArray.empty l0 ak) ag) == 63) = true := beq_iff_eq.mpr c10
        have gn : ((bt (rdOf ByteArray.empty l0 ak) ag) != 63) = false := bne_eq_false_iff_eq.mpr c10
        clear c10
        simp only [Option.some.injEq, Prod.mk.injEq] at H
        obtain ⟨rfl, rfl⟩ := H
        have dL : 0 ≤ (ak : Int) := of_decide_eq_true (Z8)
        have dM : ak < (l0.length : Int) := of_decide_eq_true (Z8)
        obtain ⟨fe, e577, bm⟩ := Kd.at_string HR0.out ak dL dM
        obtain rfl : iV = fe := (by injection e577)
        replace bm := (HB.out.cell (World.block_lt_of_cell? w _ bm)).trans bm
        replace dL := eq_true dL
        replace dM := eq_true dM
        obtain ⟨o4, o5, lx⟩ := Kd.R_slice ae.out
        subst lx
        have p9 : 0 ≤ (ag : Int) := of_decide_eq_true (Z8)
        have q9 : ag < ((rdOf ByteArray.empty l0 ak).size : Int) := of_decide_eq_true (Z8)
        have hx9 := bt_at (rdOf ByteArray.empty l0 ak) ag
        replace p9 := eq_true p9
        replace q9 := eq_true q9
        go_wp2
        go_ret2
        exact ⟨_, Z9, Z15, Z2⟩
       rw [if_neg c10] at H
       have b7 : ((bt (rdOf ByteArray.empty l0 ak) ag) == 63) = false := beq_eq_false_iff_ne.mpr c10
       have gn : ((bt (rdOf ByteArray.empty l0 ak) ag) != 63) = true := bne_iff_ne.mpr c10
       by_cases c13 : (bt (rdOf ByteArray.empty l0 ak) ag) = 46
       ·rw [if_pos c13] at H
        have cq : ((bt (rdOf ByteArray.empty l0 ak) ag) == 46) = true := beq_iff_eq.mpr c13
        have mI : ((bt (rdOf ByteArray.empty l0 ak) ag) != 46) = false := bne_eq_false_iff_eq.mpr c13
        clear c13
        have H' := Aside0.mk H
        clear H
        have dL : 0 ≤ (ak : Int) := of_decide_eq_true (Z8)
        have dM : ak < (l0.length : Int) := of_decide_eq_true (Z8)
        obtain ⟨fe, e577, bm⟩ := Kd.at_string HR0.out ak dL dM
        obtain rfl : iV = fe := (by injection e577)
        replace bm := (HB.out.cell (World.block_lt_of_cell? w _ bm)).trans bm
        replace dL := eq_true dL
        replace dM := eq_true dM
        obtain ⟨Aj, Ak, yb⟩ := Kd.R_slice ae.out
        subst yb
        have p9 : 0 ≤ (ag : Int) := of_decide_eq_true (Z8)
        have q9 : ag < ((rdOf ByteArray.empty l0 ak).size : Int) := of_decide_eq_true (Z8)
        have hx9 := bt_at (rdOf ByteArray.empty l0 ak) ag
        replace p9 := eq_true p9
        replace q9 := eq_true q9
        have o7 : 0 ≤ (ag : Int) := of_decide_eq_true (Z8)
        have o8 : ag < ((rdOf ByteArray.empty l0 ak).size : Int) := of_decide_eq_true (Z8)
        have hx12 := bt_at (rdOf ByteArray.empty l0 ak) ag
        replace o7 := eq_true o7
        replace o8 := eq_true o8
        go_wp2
        go_roundg k2
        case measure => have := HK1.out; have := HK2.out; omega
        case rel => exact ⟨(ba), (wrap64 (ak + 1)), (Z11), H', ⟨Z50⟩, ⟨Z3 ae⟩, ⟨Z2⟩⟩
       rw [if_neg c13] at H
       have cq : ((bt (rdOf ByteArray.empty l0 ak) ag) == 46) = false := beq_eq_false_iff_ne.mpr c13
       have mI : ((bt (rdOf ByteArray.empty l0 ak) ag) != 46) = true := bne_iff_ne.mpr c13
       by_cases c15 : (ba.length : Int) > 0
       ·rw [if_pos c15] at H
        have fQ : decide (0 < (ba.length : Int)) = true := decide_eq_true c15
        have iK : decide (0 < ba.length) = true := decide_eq_true (by omega)
        clear c15
        obtain ⟨bl, hji16⟩ : ∃ j_ : Int, (wrap64 ((ba.length : Int) - 1)) = j_ := ⟨_, rfl⟩
        replace H : (if 0 ≤ (bl) then (if (bl) < (ba.length : Int) then (if ((rd_T55 ba (bl)).f0) = ag then (if ((rd_T55 ba (bl)).f2) = ak then (spec_scHoles.l1 k2 l0 (ba.set ((bl) : Int).toNat (⟨(rd_T55 ba (bl)).f0, (rd_T55 ba (bl)).f1, wrap64 (ak + 1)⟩ : S55)) ag l0 (l0.length : Int) (wrap64 (ak + 1))) else (if ba.length < 5864062014805 then (spec_scHoles.l1 k2 l0 (ba ++ [(⟨ag, ak, wrap64 (ak + 1)⟩ : S55)]) ag l0 (l0.length : Int) (wrap64 (ak + 1))) else (none))) else (if ba.length < 5864062014805 then (spec_scHoles.l1 k2 l0 (ba ++ [(⟨ag, ak, wrap64 (ak + 1)⟩ : S55)]) ag l0 (l0.length : Int) (wrap64 (ak + 1))) else (none))) else (none)) else (none)) = some (r1, r2) := by first | (rw [hji16] at H; exact H) | (simp only [hji16] at H ⊢; exact H)
        have hji16w : (IntKind.i64.wrap ((ba.length : Int) - 1)) = bl := (i64_w _).trans hji16
        by_cases c17 : 0 ≤ (bl)
        case neg => rw [if_neg c17] at H; exact absurd H (by simp)
        rw [if_pos c17] at H
        have gf : decide (0 ≤ (bl)) = true := decide_eq_true c17
        clear c17
        by_cases c18 : (bl) < (ba.length : Int)
        case neg => rw [if_neg c18] at H; exact absurd H (by simp)
        rw [if_pos c18] at H
        have iL : decide ((bl) < (ba.length : Int)) = true := decide_eq_true c18
        clear c18
        by_cases c19 : ((rd_T55 ba (bl)).f0) = ag
        ·rw [if_pos c19] at H
         have iN : (((rd_T55 ba (bl)).f0) == ag) = true := beq_iff_eq.mpr c19
         have sr : (((rd_T55 ba (bl)).f0) != ag) = false := bne_eq_false_iff_eq.mpr c19
         clear c19
         by_cases c20 : ((rd_T55 ba (bl)).f2) = ak
         ·rw [if_pos c20] at H
          have g4 : (((rd_T55 ba (bl)).f2) == ak) = true := beq_iff_eq.mpr c20
          have ss : (((rd_T55 ba (bl)).f2) != ak) = false := bne_eq_false_iff_eq.mpr c20
          clear c20
          obtain ⟨yK, mS⟩ : ∃ y_ : List (S55), y_ = (ba.set ((bl) : Int).toNat (⟨(rd_T55 ba (bl)).f0, (rd_T55 ba (bl)).f1, wrap64 (ak + 1)⟩ : S55)) := ⟨_, rfl⟩
          replace H : (spec_scHoles.l1 k2 l0 yK ag l0 (l0.length : Int) (wrap64 (ak + 1))) = some (r1, r2) := by first | (rw [mS]; with_reducible exact H) | (have H2_ := (Option.bind_some _ _).symm.trans H; rw [mS]; with_reducible exact H2_) | (have H2_ := (Option.bind_some _ _).symm.trans H; with_reducible exact H2_) | with_reducible exact H | (rw [mS]; exact H) | exact H
          have Ny580 := Aside0.mk mS
          clear mS
          have H' := Aside0.mk H
          clear H
          have dL : 0 ≤ (ak : Int) := of_decide_eq_true (Z8)
          have dM : ak < (l0.length : Int) := of_decide_eq_true (Z8)
          obtain ⟨fe, e577, bm⟩ := Kd.at_string HR0.out ak dL dM
          obtain rfl : iV = fe := (by injection e577)
          replace bm := (HB.out.cell (World.block_lt_of_cell? w _ bm)).trans bm
          replace dL := eq_true dL
          replace dM := eq_true dM
          obtain ⟨yL, o1, iT⟩ := Kd.R_slice ae.out
          subst iT
          have p9 : 0 ≤ (ag : Int) := of_decide_eq_true (Z8)
          have q9 : ag < ((rdOf ByteArray.empty l0 ak).size : Int) := of_decide_eq_true (Z8)
          have hx9 := bt_at (rdOf ByteArray.empty l0 ak) ag
          replace p9 := eq_true p9
          replace q9 := eq_true q9
          have o7 : 0 ≤ (ag : Int) := of_decide_eq_true (Z8)
          have o8 : ag < ((rdOf ByteArray.empty l0 ak).size : Int) := of_decide_eq_true (Z8)
          have hx12 := bt_at (rdOf ByteArray.empty l0 ak) ag
          replace o7 := eq_true o7
          replace o8 := eq_true o8
          have iW : 0 ≤ ((bl) : Int) := of_decide_eq_true (Z8)
          have iX : (bl) < (ba.length : Int) := of_decide_eq_true (Z8)
          obtain ⟨lf, e578, lz, lA, lB⟩ := at_T55 (Kd.R_reads' ae.out).2.2 (bl) iW iX
          cases e578
          replace iW := eq_true iW
          replace iX := eq_true iX
          have o9 : 0 ≤ ((bl) : Int) := of_decide_eq_true (Z8)
          have pa : (bl) < (ba.length : Int) := of_decide_eq_true (Z8)
          obtain ⟨st, e579, p0, p7, qa⟩ := at_T55 (Kd.R_reads' ae.out).2.2 (bl) o9 pa
          obtain rfl : lf = st := (by injection e579)
          replace o9 := eq_true o9
          replace pa := eq_true pa
          have CE : 0 ≤ ((bl) : Int) := of_decide_eq_true (Z8)
          have CF : ((bl) : Int) < ((ba.length : Int) : Int) := of_decide_eq_true (Z8)
          obtain ⟨go21, co21, AU, AV, gl21, cl21, HG21⟩ := Kd.R_form ae.out (by omega)
          (first | cases AU | (injection AU with ea_ en_ ec_; (first | subst ea_ | (injection ea_ with ea_; subst ea_)); subst ec_; clear en_))
          have GB21 := Aside0.mk AV
          have GG21 := Aside0.mk HG21
          clear AV gl21 HG21
          (first | simp only [add_plain] at lz | skip)
          (first | simp only [add_plain] at lA | skip)
          (first | simp only [add_plain] at lB | skip)
          (first | simp only [add_plain] at p0 | skip)
          (first | simp only [add_plain] at p7 | skip)
          (first | simp only [add_plain] at qa | skip)
          obtain ⟨ce21, hcl21, hM21, hcc21, hfr21⟩ := Kd.R_elem ae.out z55 ((bl) : Int) CE CF
          obtain rfl := k55_openM hM21
          have hx21_0 : wr.cell? ⟨go21, ((bl) : Int).toNat * 3, none⟩ = some (.int .i64 ((rd_T55 ba (bl)).f0)) := hcc21 0 _ rfl
          have hx21_1 : wr.cell? ⟨go21, ((bl) : Int).toNat * 3 + 1, none⟩ = some (.int .i64 ((rd_T55 ba (bl)).f1)) := hcc21 1 _ rfl
          have hx21_2 : wr.cell? ⟨go21, ((bl) : Int).toNat * 3 + 2, none⟩ = some (.int .i64 ((rd_T55 ba (bl)).f2)) := hcc21 2 _ rfl
          have hf21_0 : wr.frozen? ⟨go21, ((bl) : Int).toNat * 3, none⟩ = false := hfr21 0
          have hf21_1 : wr.frozen? ⟨go21, ((bl) : Int).toNat * 3 + 1, none⟩ = false := hfr21 1
          have hf21_2 : wr.frozen? ⟨go21, ((bl) : Int).toNat * 3 + 2, none⟩ = false := hfr21 2
          clear hcl21 hcc21 hfr21 hM21
          replace CE := eq_true CE
          replace CF := eq_true CF
          have HX23 := Aside0.mk (show Kd.R k55 55 wr w.heap.size (fun _ => True) (.slice (some ⟨go21, 0, none⟩) ba.length o1) ba from (Z3 ae))
          obtain ⟨ce23, hcl23, hM23, hcc23, hfr23⟩ := Kd.R_elem HX23.out z55 ((bl) : Int) (of_decide_eq_true (Z8)) (Z108)
          obtain rfl := k55_openM hM23
          have HP23 := Kd.R_seg HX23.out ((bl) : Int) (of_decide_eq_true (Z8)) (Z108) (seg := [.int .i64 (wrap64 (ak + 1))]) (j := 2) hcl23 hcc23 (show 3 ≤ 3 from by decide) (x' := (⟨(rd_T55 ba (bl)).f0, (rd_T55 ba (bl)).f1, wrap64 (ak + 1)⟩ : S55)) (k55_mkM _ _ _ (⟨(rd_T55 ba (bl)).f0, (rd_T55 ba (bl)).f1, wrap64 (ak + 1)⟩ : S55) ) (fun _ hk => hk)
          have hx23_2 := hcc23 2 _ rfl
          (try simp only [show (k55).sz = 3 from rfl, Nat.mul_one, Nat.add_zero] at hx23_2)
          have hf23_2 := hfr23 2
          (try simp only [show (k55).sz = 3 from rfl, Nat.mul_one, Nat.add_zero] at hf23_2)
          clear hcl23 hcc23 hfr23 hM23
          go_wp2_with ((with_reducible refine gate_store (t := 3) (p := 73) rfl ?_); refine store_event (t := 3) (p := 73) (v := ?vo_w24) (w1 := (wr.setCell ⟨go21, ((bl) : Int).toNat * 3 + 2, none⟩ (.int .i64 (wrap64 (ak + 1))))) ?hg ?ho ?hn ?hr ?_; (case ho => rfl); (case hg => rfl); (case hn => rfl); (case hr => exact Z41); intro mn hw; have hg : wr.grownBy mn (some go21) := (by rw [hw]; exact HP23.2); have hp_ : Kd.R k55 55 mn w.heap.size (fun _ => True) (.slice (some ⟨go21, 0, none⟩) ba.length o1) yK := (by rw [hw, Ny580.out]; exact HP23.1); clear HP23; refine k2_ (hp_) ((by rw [hw]; exact below_set (HB.out) GB21.out : Below w.heap.size w mn)) ?_; clear ae HB; intro ae HB; clear hg hw hp_)
          go_roundg k2
          case measure => have := HK1.out; have := HK2.out; omega
          case rel => exact ⟨(yK), (wrap64 (ak + 1)), (Z11), H', ⟨Z50⟩, ⟨Z3 ae⟩, ⟨Z2⟩⟩
         rw [if_neg c20] at H
         have g4 : (((rd_T55 ba (bl)).f2) == ak) = false := beq_eq_false_iff_ne.mpr c20
         have ss : (((rd_T55 ba (bl)).f2) != ak) = true := bne_iff_ne.mpr c20
         by_cases c25 : ba.length < 5864062014805
         case neg => rw [if_neg c25] at H; exact absurd H (by simp)
         rw [if_pos c25] at H
         have LMc25 := Aside0.mk c25
         clear c25
         obtain ⟨AW, mT⟩ : ∃ y_ : List (S55), y_ = (ba ++ [(⟨ag, ak, wrap64 (ak + 1)⟩ : S55)]) := ⟨_, rfl⟩
         replace H : (spec_scHoles.l1 k2 l0 AW ag l0 (l0.length : Int) (wrap64 (ak + 1))) = some (r1, r2) := by first | (rw [mT]; with_reducible exact H) | (have H2_ := (Option.bind_some _ _).symm.trans H; rw [mT]; with_reducible exact H2_) | (have H2_ := (Option.bind_some _ _).symm.trans H; with_reducible exact H2_) | with_reducible exact H | (rw [mT]; exact H) | exact H
         have Ny581 := Aside0.mk mT
         clear mT
         have H' := Aside0.mk H
         clear H
         have dL : 0 ≤ (ak : Int) := of_decide_eq_true (Z8)
         have dM : ak < (l0.length : Int) := of_decide_eq_true (Z8)
         obtain ⟨fe, e577, bm⟩ := Kd.at_string HR0.out ak dL dM
         obtain rfl : iV = fe := (by injection e577)
         replace bm := (HB.out.cell (World.block_lt_of_cell? w _ bm)).trans bm
         replace dL := eq_true dL
         replace dM := eq_true dM
         obtain ⟨Ao26, co26, eo26⟩ := Kd.R_slice ae.out
         subst eo26
         have p9 : 0 ≤ (ag : Int) := of_decide_eq_true (Z8)
         have q9 : ag < ((rdOf ByteArray.empty l0 ak).size : Int) := of_decide_eq_true (Z8)
         have hx9 := bt_at (rdOf ByteArray.empty l0 ak) ag
         replace p9 := eq_true p9
         replace q9 := eq_true q9
         have o7 : 0 ≤ (ag : Int) := of_decide_eq_true (Z8)
         have o8 : ag < ((rdOf ByteArray.empty l0 ak).size : Int) := of_decide_eq_true (Z8)
         have hx12 := bt_at (rdOf ByteArray.empty l0 ak) ag
         replace o7 := eq_true o7
         replace o8 := eq_true o8
         have iW : 0 ≤ ((bl) : Int) := of_decide_eq_true (Z8)
         have iX : (bl) < (ba.length : Int) := of_decide_eq_true (Z8)
         obtain ⟨lf, e578, lz, lA, lB⟩ := at_T55 (Kd.R_reads' ae.out).2.2 (bl) iW iX
         cases e578
         replace iW := eq_true iW
         replace iX := eq_true iX
         have o9 : 0 ≤ ((bl) : Int) := of_decide_eq_true (Z8)
         have pa : (bl) < (ba.length : Int) := of_decide_eq_true (Z8)
         obtain ⟨st, e579, p0, p7, qa⟩ := at_T55 (Kd.R_reads' ae.out).2.2 (bl) o9 pa
         obtain rfl : lf = st := (by injection e579)
         replace o9 := eq_true o9
         replace pa := eq_true pa
         go_wp2_with ((with_reducible refine gate_builtin (b := .append) (xs := #[.tmp 26, .tmp 32]) rfl ?_); at_builtin; refine Kd.R_append k55 (w0 := w) w.heap.size rfl (.tmp 26) (.tmp 32) 24 55 (.agg #[(.int .i64 0), (.int .i64 0), (.int .i64 0)]) 24 rfl Tryz.underlying24 info55 rfl (by decide) (by omega) (.slice (some lf) ba.length co26) ba (⟨ag, ak, wrap64 (ak + 1)⟩ : S55) [.int .i64 ag, .int .i64 ak, .int .i64 (wrap64 (ak + 1))] (fun _ => True) (fun _ => False) rfl rfl ?aP (fun _ hk => hk.elim) ?aF ?aO ?aB ?aS ?aL ?_; (case aP => exact k55_mkM _ _ _ (⟨ag, ak, wrap64 (ak + 1)⟩ : S55)); (case aB => exact Z2); (case aF => exact (fun _ _ => trivial)); (case aO => exact (Z3 ae)); (case aS => exact (below_size (Z2))); (case aL => exact Z83 LMc25); intro v582 zQ ho hb hg hat; rw [← Ny581.out] at ho; refine k2_ (hb) (ho) ?_; clear HB ae; intro HB HO583; clear ho hb hg hat)
         go_roundg k2
         case measure => have := HK1.out; have := HK2.out; omega
         case rel => exact ⟨(AW), (wrap64 (ak + 1)), (Z11), H', ⟨Z50⟩, ⟨Z3 HO583⟩, ⟨Z2⟩⟩
        rw [if_neg c19] at H
        have iN : (((rd_T55 ba (bl)).f0) == ag) = false := beq_eq_false_iff_ne.mpr c19
        have sr : (((rd_T55 ba (bl)).f0) != ag) = true := bne_iff_ne.mpr c19
        by_cases c28 : ba.length < 5864062014805
        case neg => rw [if_neg c28] at H; exact absurd H (by simp)
        rw [if_pos c28] at H
        have LMc28 := Aside0.mk c28
        clear c28
        obtain ⟨AX, mU⟩ : ∃ y_ : List (S55), y_ = (ba ++ [(⟨ag, ak, wrap64 (ak + 1)⟩ : S55)]) := ⟨_, rfl⟩
        replace H : (spec_scHoles.l1 k2 l0 AX ag l0 (l0.length : Int) (wrap64 (ak + 1))) = some (r1, r2) := by first | (rw [mU]; with_reducible exact H) | (have H2_ := (Option.bind_some _ _).symm.trans H; rw [mU]; with_reducible exact H2_) | (have H2_ := (Option.bind_some _ _).symm.trans H; with_reducible exact H2_) | with_reducible exact H | (rw [mU]; exact H) | exact H
        have Ny584 := Aside0.mk mU
        clear mU
        have H' := Aside0.mk H
        clear H
        have dL : 0 ≤ (ak : Int) := of_decide_eq_true (Z8)
        have dM : ak < (l0.length : Int) := of_decide_eq_true (Z8)
        obtain ⟨fe, e577, bm⟩ := Kd.at_string HR0.out ak dL dM
        obtain rfl : iV = fe := (by injection e577)
        replace bm := (HB.out.cell (World.block_lt_of_cell? w _ bm)).trans bm
        replace dL := eq_true dL
        replace dM := eq_true dM
        obtain ⟨AT, yH, yI⟩ := Kd.R_slice ae.out
        subst yI
        have p9 : 0 ≤ (ag : Int) := of_decide_eq_true (Z8)
        have q9 : ag < ((rdOf ByteArray.empty l0 ak).size : Int) := of_decide_eq_true (Z8)
        have hx9 := bt_at (rdOf ByteArray.empty l0 ak) ag
        replace p9 := eq_true p9
        replace q9 := eq_true q9
        have o7 : 0 ≤ (ag : Int) := of_decide_eq_true (Z8)
        have o8 : ag < ((rdOf ByteArray.empty l0 ak).size : Int) := of_decide_eq_true (Z8)
        have hx12 := bt_at (rdOf ByteArray.empty l0 ak) ag
        replace o7 := eq_true o7
        replace o8 := eq_true o8
        have iW : 0 ≤ ((bl) : Int) := of_decide_eq_true (Z8)
        have iX : (bl) < (ba.length : Int) := of_decide_eq_true (Z8)
        obtain ⟨lf, e578, lz, lA, lB⟩ := at_T55 (Kd.R_reads' ae.out).2.2 (bl) iW iX
        cases e578
        replace iW := eq_true iW
        replace iX := eq_true iX
        go_wp2_with ((with_reducible refine gate_builtin (b := .append) (xs := #[.tmp 26, .tmp 32]) rfl ?_); at_builtin; refine Kd.R_append k55 (w0 := w) w.heap.size rfl (.tmp 26) (.tmp 32) 24 55 (.agg #[(.int .i64 0), (.int .i64 0), (.int .i64 0)]) 24 rfl Tryz.underlying24 info55 rfl (by decide) (by omega) (.slice (some lf) ba.length yH) ba (⟨ag, ak, wrap64 (ak + 1)⟩ : S55) [.int .i64 ag, .int .i64 ak, .int .i64 (wrap64 (ak + 1))] (fun _ => True) (fun _ => False) rfl rfl ?aP (fun _ hk => hk.elim) ?aF ?aO ?aB ?aS ?aL ?_; (case aP => exact k55_mkM _ _ _ (⟨ag, ak, wrap64 (ak + 1)⟩ : S55)); (case aB => exact Z2); (case aF => exact (fun _ _ => trivial)); (case aO => exact (Z3 ae)); (case aS => exact (below_size (Z2))); (case aL => exact Z83 LMc28); intro v585 yJ ho hb hg hat; rw [← Ny584.out] at ho; refine k2_ (hb) (ho) ?_; clear HB ae; intro HB HO586; clear ho hb hg hat)
        go_roundg k2
        case measure => have := HK1.out; have := HK2.out; omega
        case rel => exact ⟨(AX), (wrap64 (ak + 1)), (Z11), H', ⟨Z50⟩, ⟨Z3 HO586⟩, ⟨Z2⟩⟩
       rw [if_neg c15] at H
       have fQ : decide (0 < (ba.length : Int)) = false := decide_eq_false c15
       have iK : decide (0 < ba.length) = false := decide_eq_false (by omega)
       clear c15
       by_cases c31 : ba.length < 5864062014805
       case neg => rw [if_neg c31] at H; exact absurd H (by simp)
       rw [if_pos c31] at H
       have LMc31 := Aside0.mk c31
       clear c31
       obtain ⟨AY, mV⟩ : ∃ y_ : List (S55), y_ = (ba ++ [(⟨ag, ak, wrap64 (ak + 1)⟩ : S55)]) := ⟨_, rfl⟩
       replace H : (spec_scHoles.l1 k2 l0 AY ag l0 (l0.length : Int) (wrap64 (ak + 1))) = some (r1, r2) := by first | (rw [mV]; with_reducible exact H) | (have H2_ := (Option.bind_some _ _).symm.trans H; rw [mV]; with_reducible exact H2_) | (have H2_ := (Option.bind_some _ _).symm.trans H; with_reducible exact H2_) | with_reducible exact H | (rw [mV]; exact H) | exact H
       have Ny587 := Aside0.mk mV
       clear mV
       have H' := Aside0.mk H
       clear H
       have dL : 0 ≤ (ak : Int) := of_decide_eq_true (Z8)
       have dM : ak < (l0.length : Int) := of_decide_eq_true (Z8)
       obtain ⟨fe, e577, bm⟩ := Kd.at_string HR0.out ak dL dM
       obtain rfl : iV = fe := (by injection e577)
       replace bm := (HB.out.cell (World.block_lt_of_cell? w _ bm)).trans bm
       replace dL := eq_true dL
       replace dM := eq_true dM
       obtain ⟨uG, su, sv⟩ := Kd.R_slice ae.out
       subst sv
       have p9 : 0 ≤ (ag : Int) := of_decide_eq_true (Z8)
       have q9 : ag < ((rdOf ByteArray.empty l0 ak).size : Int) := of_decide_eq_true (Z8)
       have hx9 := bt_at (rdOf ByteArray.empty l0 ak) ag
       replace p9 := eq_true p9
       replace q9 := eq_true q9
       have o7 : 0 ≤ (ag : Int) := of_decide_eq_true (Z8)
       have o8 : ag < ((rdOf ByteArray.empty l0 ak).size : Int) := of_decide_eq_true (Z8)
       have hx12 := bt_at (rdOf ByteArray.empty l0 ak) ag
       replace o7 := eq_true o7
       replace o8 := eq_true o8
       go_wp2_with ((with_reducible refine gate_builtin (b := .append) (xs := #[.tmp 26, .tmp 32]) rfl ?_); at_builtin; refine Kd.R_append k55 (w0 := w) w.heap.size rfl (.tmp 26) (.tmp 32) 24 55 (.agg #[(.int .i64 0), (.int .i64 0), (.int .i64 0)]) 24 rfl Tryz.underlying24 info55 rfl (by decide) (by omega) (.slice uG ba.length su) ba (⟨ag, ak, wrap64 (ak + 1)⟩ : S55) [.int .i64 ag, .int .i64 ak, .int .i64 (wrap64 (ak + 1))] (fun _ => True) (fun _ => False) rfl rfl ?aP (fun _ hk => hk.elim) ?aF ?aO ?aB ?aS ?aL ?_; (case aP => exact k55_mkM _ _ _ (⟨ag, ak, wrap64 (ak + 1)⟩ : S55)); (case aB => exact Z2); (case aF => exact (fun _ _ => trivial)); (case aO => exact (Z3 ae)); (case aS => exact (below_size (Z2))); (case aL => exact Z83 LMc31); intro v588 qH ho hb hg hat; rw [← Ny587.out] at ho; refine k2_ (hb) (ho) ?_; clear HB ae; intro HB HO589; clear ho hb hg hat)
       go_roundg k2
       case measure => have := HK1.out; have := HK2.out; omega
       case rel => exact ⟨(AY), (wrap64 (ak + 1)), (Z11), H', ⟨Z50⟩, ⟨Z3 HO589⟩, ⟨Z2⟩⟩
      rw [if_neg c4] at H
      have bZ : decide (ak < (l0.length : Int)) = false := decide_eq_false c4
      clear c4
      have H' := Aside0.mk H
      clear H
      go_wp2
      go_roundg k2
      case measure => have := HK1.out; have := HK2.out; omega
      case rel => exact ⟨(ba), (wrap64 (ag + 1)), (Z11), H', ⟨Z50⟩, ⟨Z3 ae⟩, ⟨Z2⟩⟩
   rw [if_neg c3] at H
   have bA : decide (ag < ((rdOf ByteArray.empty l0 0).size : Int)) = false := decide_eq_false c3
   clear c3
   obtain ⟨⟨AZ, Ba⟩, Bb, H⟩ := bd_ H
   replace H : (some (AZ, Ba)) = some (r1, r2) := H
   simp only [Option.some.injEq, Prod.mk.injEq] at H
   obtain ⟨rfl, rfl⟩ := H
   have mQ : 0 ≤ (0 : Int) := (by omega)
   have mR : 0 < (l0.length : Int) := of_decide_eq_true (Z8)
   obtain ⟨iV, e572, cy⟩ := Kd.at_string HR0.out 0 mQ mR
   cases e572
   have qi572 : (0 < l0.length) = True := eq_true (by omega)
   (try rw [show ((0 : Int)).toNat = 0 from rfl] at cy)
   (try rw [Addr.add_zero'] at cy)
   replace cy := (HB.out.cell (World.block_lt_of_cell? w _ cy)).trans cy
   replace mQ := eq_true mQ
   replace mR := eq_true mR
   obtain ⟨hV, hX, uH⟩ := Kd.R_slice ae.out
   subst uH
   go_wp2_with ((with_reducible refine gate_callee (f := 67) rfl ?_); refine gl_ 76 Tryz.func67 #[.slice hV ap.length hX] ?_; (with_reducible refine (spec_shSorted.calls k1 _ _ ap AZ Ba _ ?_ ?_ Bb.out).mono ?_); exact (Z1 ae); exact (Kd.R_reads' ae.out).2.1; rintro e qA ⟨v575, rfl, ho0, hb⟩; refine ⟨_, rfl, ?_⟩; refine k3_ (Yb_ ae) (Kd.R_lower (Kd.R_new' ho0 (Yd_ ae)) (below_size (Z2))) (below_step (Z2) hb) ?_; clear ae HB; intro ae HO576 HB; (try clear hb ho0))
   go_ret2
   exact ⟨_, Z9, Z25 HO576, Z2⟩

/-! ### spec_HolesIn: function 17 -/
def spec_HolesIn.f (k : Nat) (l0 : List ByteArray) : Option ((List (S55)) × Bool) := (spec_scGood.f k l0).bind fun sx => (if sx = true then ((spec_scHoles.f k l0).bind fun mW => (some (mW.1, mW.2))) else (some (([] : List (S55)), false)))
theorem spec_HolesIn.mono : ∀ a0 k, LeO (spec_HolesIn.f k a0) (spec_HolesIn.f (k + 1) a0) := by
 intro a0 k
 unfold spec_HolesIn.f
 exact mo16_
set_option maxHeartbeats 8000000 in
set_option maxRecDepth 100000 in
theorem spec_HolesIn.calls (k : Nat) (A0 : Option Addr) (c0 : Nat) (l0 : List ByteArray) (r1 : List (S55)) (r2 : Bool) (w : World) (hr0 : Kd.C Kd.string w A0 l0.length l0) (hc0 : l0.length ≤ c0) (h : spec_HolesIn.f k l0 = some (r1, r2)) :
  Calls Tryz.prog 17 #[.slice A0 l0.length c0] w fun e w' => ∃ v0_ : Value, e = .returned (.tuple #[v0_, .bool r2]) ∧ Kd.R k55 55 w' w.heap.size (fun _ => True) v0_ r1 ∧ Below w.heap.size w w' := by
 have HR0 := Aside0.mk hr0
 have HC0 := Aside0.mk hc0
 clear hr0 hc0
 have HB := Aside0.mk (Below.refl w.heap.size w)
 have H : ((spec_scGood.f k l0).bind fun sx => (if sx = true then ((spec_scHoles.f k l0).bind fun mW => (some (mW.1, mW.2))) else (some (([] : List (S55)), false)))) = some (r1, r2) := h
 clear h
 obtain ⟨sx, A2, H⟩ := bd_ H
 (try dsimp only at H)
 by_cases c3 : sx = true
 ·subst c3
  rw [if_pos rfl] at H
  obtain ⟨⟨Bc, Bd⟩, A4, H⟩ := bd_ H
  replace H : (some (Bc, Bd)) = some (r1, r2) := H
  simp only [Option.some.injEq, Prod.mk.injEq] at H
  obtain ⟨rfl, rfl⟩ := H
  go_enter Tryz.func17, Tryz.ntmps17
  go_wp2_with (first | ((with_reducible refine gate_callee (f := 41) rfl ?_); refine gl_ 5 Tryz.func41 #[.slice A0 l0.length c0] ?_; (with_reducible refine (spec_scGood.calls k _ _ l0 true _ ?_ ?_ A2.out).mono ?_); exact (Z10 HR0); exact HC0.out; rintro e w' ⟨rfl, ⟨nd, rfl⟩⟩; refine ⟨_, rfl, ?_⟩) | ((with_reducible refine gate_callee (f := 46) rfl ?_); refine gl_ 8 Tryz.func46 #[.slice A0 l0.length c0] ?_; (with_reducible refine (spec_scHoles.calls k _ _ l0 Bc Bd _ ?_ ?_ A4.out).mono ?_); exact (Z10 HR0); exact HC0.out; rintro e w5 ⟨v593, rfl, ho0, hb⟩; refine ⟨_, rfl, ?_⟩; refine k2_ (Kd.R_lower ho0 (below_size (Z2))) (below_step (Z2) hb) ?_; clear HB; intro HO594 HB; (try clear hb ho0)))
  go_ret2
  exact ⟨_, Z9, Z3 HO594, Z2⟩
 replace c3 := Bool.eq_false_iff.mpr c3
 subst c3
 rw [if_neg (show ¬ (false = true) by decide)] at H
 simp only [Option.some.injEq, Prod.mk.injEq] at H
 obtain ⟨rfl, rfl⟩ := H
 go_enter Tryz.func17, Tryz.ntmps17
 go_wp2_with ((with_reducible refine gate_callee (f := 41) rfl ?_); refine gl_ 5 Tryz.func41 #[.slice A0 l0.length c0] ?_; (with_reducible refine (spec_scGood.calls k _ _ l0 false _ ?_ ?_ A2.out).mono ?_); exact (Z10 HR0); exact HC0.out; rintro e w' ⟨rfl, ⟨nd, rfl⟩⟩; refine ⟨_, rfl, ?_⟩)
 go_ret2
 exact ⟨_, Z9, Z15, Z2⟩

/-! ### laws_pSameHoles: function 18 -/
def laws_pSameHoles.l0 : Nat → List (S55) → List (S55) → Int → Int → Option (Bool)
 | 0, _, _, _, _ => none
 | k + 1, x0, x1, x12, x13 => if x13 < x12 then (if 0 ≤ x13 then (if x13 < (x0.length : Int) then (if x13 < (x1.length : Int) then (if (!(((rd_T55 x0 x13).f0) == ((rd_T55 x1 x13).f0)) || (!(((rd_T55 x0 x13).f1) == ((rd_T55 x1 x13).f1)) || (!(((rd_T55 x0 x13).f2) == ((rd_T55 x1 x13).f2))))) = true then (some false) else (laws_pSameHoles.l0 k x0 x1 x12 (wrap64 (x13 + 1)))) else (none)) else (none)) else (none)) else (some true)
def laws_pSameHoles.f (k : Nat) (l0 : List (S55)) (l1 : List (S55)) : Option (Bool) := if (l0.length : Int) = (l1.length : Int) then (laws_pSameHoles.l0 k l0 l1 (l0.length : Int) 0) else (some false)
theorem laws_pSameHoles.mono_l : ∀ k, (∀ y0 y1 y2 y3, LeO (laws_pSameHoles.l0 k y0 y1 y2 y3) (laws_pSameHoles.l0 (k + 1) y0 y1 y2 y3))
 | 0 => fun _ _ _ _ r h => by simp [laws_pSameHoles.l0] at h
 | k + 1 => by
  have ih0 := laws_pSameHoles.mono_l k
  ·intro y0 y1 y2 y3
   unfold laws_pSameHoles.l0
   exact mo16_
theorem laws_pSameHoles.mono : ∀ a0 a1 k, LeO (laws_pSameHoles.f k a0 a1) (laws_pSameHoles.f (k + 1) a0 a1) := by
 intro a0 a1 k
 have ih0 := laws_pSameHoles.mono_l k
 unfold laws_pSameHoles.f
 exact mo16_
set_option maxHeartbeats 8000000 in
set_option maxRecDepth 100000 in
theorem laws_pSameHoles.calls (k : Nat) (A0 : Option Addr) (c0 : Nat) (l0 : List (S55)) (A1 : Option Addr) (c1 : Nat) (l1 : List (S55)) (r : Bool) (w : World) (hr0 : Kd.C k55 w A0 l0.length l0) (hc0 : l0.length ≤ c0) (hr1 : Kd.C k55 w A1 l1.length l1) (hc1 : l1.length ≤ c1) (h : laws_pSameHoles.f k l0 l1 = some r) :
  Calls Tryz.prog 18 #[.slice A0 l0.length c0, .slice A1 l1.length c1] w fun e w' => e = .returned (.bool r) ∧ Drawn0 w w' := by
 have hu55 := Tryz.underlying55
 have HR0 := Aside0.mk hr0
 have HC0 := Aside0.mk hc0
 clear hr0 hc0
 have HR1 := Aside0.mk hr1
 have HC1 := Aside0.mk hc1
 clear hr1 hc1
 have H : (if (l0.length : Int) = (l1.length : Int) then (laws_pSameHoles.l0 k l0 l1 (l0.length : Int) 0) else (some false)) = some r := h
 clear h
 by_cases c3 : (l0.length : Int) = (l1.length : Int)
 ·rw [if_pos c3] at H
  have bA : ((l0.length : Int) == (l1.length : Int)) = true := beq_iff_eq.mpr c3
  have fU : ((l0.length : Int) != (l1.length : Int)) = false := bne_eq_false_iff_eq.mpr c3
  have mo : (l0.length == l1.length) = true := by first | simpa using c3 | (simp at c3 ⊢; omega)
  clear c3
  have H' := Aside0.mk H
  clear H
  go_enter Tryz.func18, Tryz.ntmps18
  go_wp2
  repeat (go_quiet (fail); try go_wp2)
  go_loopg [13] k (fun kq ug w' => ∃ (af : Int), ug = .int .i64 af ∧ Aside0 (laws_pSameHoles.l0 kq l0 l1 (l0.length : Int) af = some r) ∧ Aside0 (kq ≤ k) ∧ Drawn0 w w')
  case atStart => exact ⟨(0), (Z11), H', ⟨Nat.le_refl _⟩, Z14⟩
  case round =>
   clear H'
   (try clear c1); (try clear c3); (try clear bA); (try clear fU); (try clear mo)
   obtain ⟨af, rfl, HA, HK1, ⟨m1, rfl⟩⟩ := hrel
   cases gk with
   | zero => exact absurd HA.out (by simp [laws_pSameHoles.l0])
   | succ k1 =>
    have H := HA.out
    clear HA
    simp only [laws_pSameHoles.l0] at H
    by_cases c4 : af < (l0.length : Int)
    ·rw [if_pos c4] at H
     have bZ : decide (af < (l0.length : Int)) = true := decide_eq_true c4
     clear c4
     by_cases c5 : 0 ≤ af
     case neg => rw [if_neg c5] at H; exact absurd H (by simp)
     rw [if_pos c5] at H
     have ci : decide (0 ≤ af) = true := decide_eq_true c5
     clear c5
     by_cases c6 : af < (l0.length : Int)
     case neg => rw [if_neg c6] at H; exact absurd H (by simp)
     rw [if_pos c6] at H
     have ck : decide (af < (l0.length : Int)) = true := decide_eq_true c6
     clear c6
     by_cases c7 : af < (l1.length : Int)
     case neg => rw [if_neg c7] at H; exact absurd H (by simp)
     rw [if_pos c7] at H
     have cd : decide (af < (l1.length : Int)) = true := decide_eq_true c7
     clear c7
     by_cases c8 : (!(((rd_T55 l0 af).f0) == ((rd_T55 l1 af).f0)) || (!(((rd_T55 l0 af).f1) == ((rd_T55 l1 af).f1)) || (!(((rd_T55 l0 af).f2) == ((rd_T55 l1 af).f2))))) = true
     ·rw [if_pos c8] at H
      have ep : (!(((rd_T55 l0 af).f0) == ((rd_T55 l1 af).f0)) || (!(((rd_T55 l0 af).f1) == ((rd_T55 l1 af).f1)) || (!(((rd_T55 l0 af).f2) == ((rd_T55 l1 af).f2))))) = true := c8
      clear c8
      obtain rfl := Option.some.inj H
      have pb : 0 ≤ (af : Int) := of_decide_eq_true (Z8)
      have pc : af < (l0.length : Int) := of_decide_eq_true (Z8)
      obtain ⟨ad595, e595, hx595_0, hx595_1, hx595_2⟩ := at_T55 HR0.out af pb pc
      cases e595
      replace pb := eq_true pb
      replace pc := eq_true pc
      have pd : 0 ≤ (af : Int) := of_decide_eq_true (Z8)
      have pe : af < (l1.length : Int) := of_decide_eq_true (Z8)
      obtain ⟨ad596, e596, hx596_0, hx596_1, hx596_2⟩ := at_T55 HR1.out af pd pe
      cases e596
      replace pd := eq_true pd
      replace pe := eq_true pe
      go_wp2
      repeat (go_quiet (fail); try go_wp2)
      go_ret
      exact ⟨Z11, Z14⟩
     rw [if_neg c8] at H
     have ep : (!(((rd_T55 l0 af).f0) == ((rd_T55 l1 af).f0)) || (!(((rd_T55 l0 af).f1) == ((rd_T55 l1 af).f1)) || (!(((rd_T55 l0 af).f2) == ((rd_T55 l1 af).f2))))) = false := by simpa using c8
     clear c8
     have H' := Aside0.mk H
     clear H
     have pb : 0 ≤ (af : Int) := of_decide_eq_true (Z8)
     have pc : af < (l0.length : Int) := of_decide_eq_true (Z8)
     obtain ⟨ad595, e595, hx595_0, hx595_1, hx595_2⟩ := at_T55 HR0.out af pb pc
     cases e595
     replace pb := eq_true pb
     replace pc := eq_true pc
     have pd : 0 ≤ (af : Int) := of_decide_eq_true (Z8)
     have pe : af < (l1.length : Int) := of_decide_eq_true (Z8)
     obtain ⟨ad596, e596, hx596_0, hx596_1, hx596_2⟩ := at_T55 HR1.out af pd pe
     cases e596
     replace pd := eq_true pd
     replace pe := eq_true pe
     go_wp2
     repeat (go_quiet (fail); try go_wp2)
     go_roundg k1
     case measure => have := HK1.out; omega
     case rel => exact ⟨(wrap64 (af + 1)), (Z11), H', ⟨Z83 HK1⟩, Z14⟩
    rw [if_neg c4] at H
    have bZ : decide (af < (l0.length : Int)) = false := decide_eq_false c4
    clear c4
    obtain rfl := Option.some.inj H
    go_wp2
    repeat (go_quiet (fail); try go_wp2)
    go_ret
    exact ⟨Z11, Z14⟩
 rw [if_neg c3] at H
 have bA : ((l0.length : Int) == (l1.length : Int)) = false := beq_eq_false_iff_ne.mpr c3
 have fU : ((l0.length : Int) != (l1.length : Int)) = true := bne_iff_ne.mpr c3
 have mo : (l0.length == l1.length) = false := by first | simpa using c3 | (simp at c3 ⊢; omega)
 obtain rfl := Option.some.inj H
 go_enter Tryz.func18, Tryz.ntmps18
 go_wp2
 repeat (go_quiet (fail); try go_wp2)
 go_ret
 exact ⟨Z11, Z14⟩

/-! ### spec_DrawIsScan: function 47 -/
def spec_DrawIsScan.f (k : Nat) (l0 : List Int) : Option (List ByteArray) := (spec_l1Cur_scan.f k l0 0 0).bind fun sy => (some sy.1)
theorem spec_DrawIsScan.mono : ∀ a0 k, LeO (spec_DrawIsScan.f k a0) (spec_DrawIsScan.f (k + 1) a0) := by
 intro a0 k
 unfold spec_DrawIsScan.f
 exact mo16_
set_option maxHeartbeats 8000000 in
set_option maxRecDepth 100000 in
theorem spec_DrawIsScan.calls (k : Nat) (A0 : Option Addr) (c0 : Nat) (l0 : List Int) (r : List ByteArray) (w : World) (hr0 : Kd.C (Kd.int .u8) w A0 l0.length l0) (hc0 : l0.length ≤ c0) (h : spec_DrawIsScan.f k l0 = some r) :
  Calls Tryz.prog 47 #[.slice A0 l0.length c0] w fun e w' => ∃ v0_ : Value, e = .returned (v0_) ∧ Kd.R Kd.string 9 w' w.heap.size (fun _ => True) v0_ r ∧ Below w.heap.size w w' := by
 have hu49 := Tryz.underlying49
 have HR0 := Aside0.mk hr0
 have HC0 := Aside0.mk hc0
 clear hr0 hc0
 have HB := Aside0.mk (Below.refl w.heap.size w)
 have H : ((spec_l1Cur_scan.f k l0 0 0).bind fun sy => (some sy.1)) = some r := h
 clear h
 obtain ⟨⟨Be, t601, t602⟩, A2, H⟩ := bd_ H
 replace H : (some Be) = some r := H
 obtain rfl := Option.some.inj H
 go_enter Tryz.func47, Tryz.ntmps47
 go_wp2_with (first | ((with_reducible refine gate_dst (N := 6) rfl ?_); refine bv_ 6 49 #[.slice A0 l0.length c0, .int .i64 0, .int .u64 0] ?_; intro mX hg w3 hbox hb; refine k4_ (below_step (Z2) hb) ((show IsS49 w w3 mX l0 0 0 from ⟨_, _, hbox, (Z33), HR0.out⟩)) ((Z33 : w.heap.size ≤ mX)) ((Z33 : w.heap.size ≤ mX)) ?_; clear HB; intro HB HI597 GW597 GE597; clear hb hbox hg) | ((with_reducible refine gate_callee (f := 40) rfl ?_); refine gl_ 8 Tryz.func40 #[.pointer (some ⟨mX, 0, none⟩)] ?_; (with_reducible refine (spec_l1Cur_scan.calls k mX l0 0 0 Be t601 t602 w _ ?_ ?_ A2.out).mono ?_); exact (Z4 HI597); exact Z85; rintro e w4 ⟨v599, rfl, ho0, hi, hb, hk⟩; refine ⟨_, rfl, ?_⟩; refine k3_ (Kd.R_lower ho0 (below_size (Z85))) (hb) (hi) ?_; clear HB HI597; intro HO600 HB HI597; (try clear hb hk hi ho0)))
 go_ret
 exact ⟨_, Z9, Z3 HO600, Z85⟩

/-! ### spec_DrawLeastHoles: function 19 -/
def spec_DrawLeastHoles.f (k : Nat) (l0 : List Int) : Option (List ByteArray) := (spec_DrawIsScan.f k l0).bind fun qI => (some qI)
theorem spec_DrawLeastHoles.mono : ∀ a0 k, LeO (spec_DrawLeastHoles.f k a0) (spec_DrawLeastHoles.f (k + 1) a0) := by
 intro a0 k
 unfold spec_DrawLeastHoles.f
 exact mo16_
set_option maxHeartbeats 8000000 in
set_option maxRecDepth 100000 in
theorem spec_DrawLeastHoles.calls (k : Nat) (A0 : Option Addr) (c0 : Nat) (l0 : List Int) (r : List ByteArray) (w : World) (hr0 : Kd.C (Kd.int .u8) w A0 l0.length l0) (hc0 : l0.length ≤ c0) (h : spec_DrawLeastHoles.f k l0 = some r) :
  Calls Tryz.prog 19 #[.slice A0 l0.length c0] w fun e w' => ∃ v0_ : Value, e = .returned (v0_) ∧ Kd.R Kd.string 9 w' w.heap.size (fun _ => True) v0_ r ∧ Below w.heap.size w w' := by
 have HR0 := Aside0.mk hr0
 have HC0 := Aside0.mk hc0
 clear hr0 hc0
 have HB := Aside0.mk (Below.refl w.heap.size w)
 have H : ((spec_DrawIsScan.f k l0).bind fun qI => (some qI)) = some r := h
 clear h
 obtain ⟨qI, A2, H⟩ := bd_ H
 replace H : (some qI) = some r := H
 obtain rfl := Option.some.inj H
 go_enter Tryz.func19, Tryz.ntmps19
 go_wp2_with ((with_reducible refine gate_callee (f := 47) rfl ?_); refine gl_ 4 Tryz.func47 #[.slice A0 l0.length c0] ?_; (with_reducible refine (spec_DrawIsScan.calls k _ _ l0 qI _ ?_ ?_ A2.out).mono ?_); exact (Z10 HR0); exact HC0.out; rintro e w3 ⟨v604, rfl, ho0, hb⟩; refine ⟨_, rfl, ?_⟩; refine k2_ (Kd.R_lower ho0 (below_size (Z2))) (below_step (Z2) hb) ?_; clear HB; intro HO605 HB; (try clear hb ho0))
 go_ret
 exact ⟨_, Z9, Z3 HO605, Z2⟩

/-! ### strings_ReplaceAll: function 68: by this session -/
def strings_ReplaceAll.f (a0 : ByteArray) (a1 : ByteArray) (a2 : ByteArray) : Option (ByteArray) := if a1.size = 1 ∧ a0.size ≤ 1000 ∧ a2.size ≤ 1000 then some ⟨(Go.Lib.replaceAll a0.data.toList a1.data.toList a2.data.toList).toArray⟩ else none
theorem strings_ReplaceAll.extra : Builder.Extra Tryz.prog Tryz.lays155_ren := {
 sizeBuilder := by kernel_rfl
 liesBuilder := by kernel_rfl
 t5 := Tryz.underlying5
 a5 := Tryz.isAgg5
 z5 := Tryz.sizeOf5
 v5 := Tryz.zeroValue5
 infoByte := by kernel_rfl
 cellsByte := by kernel_rfl
 sizeByte := by kernel_rfl
 neB5 := by decide }
theorem strings_ReplaceAll.calls (a0 : ByteArray) (a1 : ByteArray) (a2 : ByteArray) (r : ByteArray) (w : World) (h : strings_ReplaceAll.f a0 a1 a2 = some r) :
  Calls Tryz.prog 68 #[.string a0, .string a1, .string a2] w fun e w' => e = .returned (.string r) ∧ Below w.heap.size w w' := by
 unfold strings_ReplaceAll.f at h
 split at h
 ·rename_i hc
  obtain rfl := Option.some.inj h
  obtain ⟨c, hold⟩ := Go.Lib.one_byte a1 hc.1
  have hle := Go.Lib.countB_le a1 (by omega) a0.size a0 (Nat.le_refl _)
  have hmul : Go.Lib.countB a0 a1 * a2.size ≤ 1000 * 1000 := Nat.mul_le_mul (by omega) hc.2.2
  exact One.strings_ReplaceAll Tryz.lays155 strings_ReplaceAll.extra c a0 a1 a2 hold w (by omega) (by omega) (by omega)
 cases h

end Go.Proofs.YtcpbncljimmkfaaGreatDoor.PFnScans
