-- written by a program of this session: the kit's print, with outer functions of the session's own (wip/ext)
import Derived.Test.YtcpbncljimmkfaaGreatDoorPFnScansx0
import Derived.Test.YtcpbncljimmkfaaGreatDoorPFnScansx2
import Derived.Test.YtcpbncljimmkfaaGreatDoorPFnScansx12
namespace Go.Proofs.YtcpbncljimmkfaaGreatDoor.PFnScans
open Go.RowKit Go.Proofs.YtcpbncljimmkfaaGreatDoorW.PrintWords Go.Proofs.YtcpbncljimmkfaaGreatDoorW.PrintLast Go.Proofs.YtcpbncljimmkfaaGreatDoorW.PrintMore
attribute [local go_sem] max2_int min2_int max_two min_two max_three min_three max_four min_four   -- for this text's walks alone
set_option linter.unusedVariables false
set_option linter.unusedSimpArgs false
theorem mo13_ {p : Prop} (h : p := by repeat' first | (with_reducible first | apply ih0 | apply ih0 | apply ih1 | apply ih1 | apply spec_l1Cur_scan.mono | apply spec_l1Cur_scan.mono | apply spec_scFill.mono | apply spec_scFill.mono | apply spec_scGood.mono | apply spec_scGood.mono | exact LeO.refl _ | exact LeO.none _ | refine LeO.ite ?_ ?_ | refine LeO.bind ?_ (fun _ => ?_)) | exact LeO.none _ | refine LeO.ite ?_ ?_ | refine LeO.bind ?_ (fun _ => ?_)) : p := h

/-! ### spec_scGood: function 41 -/
mutual
def spec_scGood.l0 : Nat → List ByteArray → List ByteArray → Int → Int → Option (Bool)
 | 0, _, _, _, _ => none
 | k + 1, x0, x6, x7, x8 => if x8 < x7 then (if 0 ≤ x8 then (if x8 < (x6.length : Int) then (if 0 < (x0.length : Int) then (if ((rdOf ByteArray.empty x6 x8).size : Int) = ((rdOf ByteArray.empty x0 0).size : Int) then (spec_scGood.l1 k x0 (rdOf ByteArray.empty x6 x8) 0 x6 x7 x8) else (some false)) else (none)) else (none)) else (none)) else ((spec_l1In.f (x0.length : Int) 1 60).bind fun yp => (if yp = true then (if 0 < (x0.length : Int) then ((spec_l1In.f ((rdOf ByteArray.empty x0 0).size : Int) 1 20).bind fun uy => (some uy)) else (none)) else (some false)))
def spec_scGood.l1 : Nat → List ByteArray → ByteArray → Int → List ByteArray → Int → Int → Option (Bool)
 | 0, _, _, _, _, _, _ => none
 | k + 1, x0, x4, x5, x6, x7, x8 => if x5 < (x4.size : Int) then (if 0 ≤ x5 then (if (bt x4 x5) = 46 then (spec_scGood.l1 k x0 x4 (wrap64 (x5 + 1)) x6 x7 x8) else (if (bt x4 x5) = 111 then (spec_scGood.l1 k x0 x4 (wrap64 (x5 + 1)) x6 x7 x8) else (if (bt x4 x5) = 63 then (spec_scGood.l1 k x0 x4 (wrap64 (x5 + 1)) x6 x7 x8) else (some false)))) else (none)) else (spec_scGood.l0 k x0 x6 x7 (wrap64 (x8 + 1)))
end
def spec_scGood.f (k : Nat) (l0 : List ByteArray) : Option (Bool) := spec_scGood.l0 k l0 l0 (l0.length : Int) 0
theorem spec_scGood.mono_l : ∀ k, (∀ y0 y1 y2 y3, LeO (spec_scGood.l0 k y0 y1 y2 y3) (spec_scGood.l0 (k + 1) y0 y1 y2 y3)) ∧ (∀ y0 y1 y2 y3 y4 y5, LeO (spec_scGood.l1 k y0 y1 y2 y3 y4 y5) (spec_scGood.l1 (k + 1) y0 y1 y2 y3 y4 y5))
 | 0 => ⟨fun _ _ _ _ r h => by simp [spec_scGood.l0] at h, fun _ _ _ _ _ _ r h => by simp [spec_scGood.l1] at h⟩
 | k + 1 => by
  obtain ⟨ih0, ih1⟩ := spec_scGood.mono_l k
  refine ⟨?_, ?_⟩
  ·intro y0 y1 y2 y3
   unfold spec_scGood.l0
   exact mo13_
  intro y0 y1 y2 y3 y4 y5
  unfold spec_scGood.l1
  exact mo13_
theorem spec_scGood.mono : ∀ a0 k, LeO (spec_scGood.f k a0) (spec_scGood.f (k + 1) a0) := by
 intro a0 k
 obtain ⟨ih0, ih1⟩ := spec_scGood.mono_l k
 unfold spec_scGood.f
 exact mo13_
set_option maxHeartbeats 8000000 in
set_option maxRecDepth 100000 in
theorem spec_scGood.calls (k : Nat) (A0 : Option Addr) (c0 : Nat) (l0 : List ByteArray) (r : Bool) (w : World) (hr0 : Kd.C Kd.string w A0 l0.length l0) (hc0 : l0.length ≤ c0) (h : spec_scGood.f k l0 = some r) :
  Calls Tryz.prog 41 #[.slice A0 l0.length c0] w fun e w' => e = .returned (.bool r) ∧ Drawn0 w w' := by
 have HR0 := Aside0.mk hr0
 have HC0 := Aside0.mk hc0
 clear hr0 hc0
 have H : (spec_scGood.l0 k l0 l0 (l0.length : Int) 0) = some r := h
 clear h
 have H' := Aside0.mk H
 clear H
 go_enter Tryz.func41, Tryz.ntmps41
 go_wp2
 go_loopg [8] k (fun kq v8 w' => ∃ (aI : Int), v8 = .int .i64 aI ∧ Aside0 (spec_scGood.l0 kq l0 l0 (l0.length : Int) aI = some r) ∧ Aside0 (kq ≤ k) ∧ Drawn0 w w')
 case atStart => exact ⟨(0), (Z11), H', ⟨Nat.le_refl _⟩, Z14⟩
 case round =>
  clear H'
  obtain ⟨aI, rfl, HA, HK1, ⟨m1, rfl⟩⟩ := hrel
  cases gk with
  | zero => exact absurd HA.out (by simp [spec_scGood.l0])
  | succ k1 =>
   have H := HA.out
   clear HA
   simp only [spec_scGood.l0] at H
   by_cases c2 : aI < (l0.length : Int)
   ·rw [if_pos c2] at H
    have eu : decide (aI < (l0.length : Int)) = true := decide_eq_true c2
    clear c2
    by_cases c3 : 0 ≤ aI
    case neg => rw [if_neg c3] at H; exact absurd H (by simp)
    rw [if_pos c3] at H
    have bA : decide (0 ≤ aI) = true := decide_eq_true c3
    clear c3
    by_cases c4 : aI < (l0.length : Int)
    case neg => rw [if_neg c4] at H; exact absurd H (by simp)
    rw [if_pos c4] at H
    have bZ : decide (aI < (l0.length : Int)) = true := decide_eq_true c4
    clear c4
    by_cases c5 : 0 < (l0.length : Int)
    case neg => rw [if_neg c5] at H; exact absurd H (by simp)
    rw [if_pos c5] at H
    have ci : decide (0 < (l0.length : Int)) = true := decide_eq_true c5
    have uz : decide (0 < l0.length) = true := decide_eq_true (by omega)
    clear c5
    by_cases c6 : ((rdOf ByteArray.empty l0 aI).size : Int) = ((rdOf ByteArray.empty l0 0).size : Int)
    ·rw [if_pos c6] at H
     have ck : (((rdOf ByteArray.empty l0 aI).size : Int) == ((rdOf ByteArray.empty l0 0).size : Int)) = true := beq_iff_eq.mpr c6
     have gN : (((rdOf ByteArray.empty l0 aI).size : Int) != ((rdOf ByteArray.empty l0 0).size : Int)) = false := bne_eq_false_iff_eq.mpr c6
     have AE : ((rdOf ByteArray.empty l0 aI).size == (rdOf ByteArray.empty l0 0).size) = true := by first | simpa using c6 | (simp at c6 ⊢; omega)
     clear c6
     have H' := Aside0.mk H
     clear H
     have mE : 0 ≤ (aI : Int) := of_decide_eq_true (Z8)
     have mF : aI < (l0.length : Int) := of_decide_eq_true (Z8)
     obtain ⟨sg, e522, pW⟩ := Kd.at_string HR0.out aI mE mF
     cases e522
     replace mE := eq_true mE
     replace mF := eq_true mF
     have mG : 0 ≤ (0 : Int) := (by omega)
     have mH : 0 < (l0.length : Int) := of_decide_eq_true (Z8)
     obtain ⟨sh, e523, fB⟩ := Kd.at_string HR0.out 0 mG mH
     obtain rfl : sg = sh := (by injection e523)
     have qi523 : (0 < l0.length) = True := eq_true (by omega)
     (try rw [show ((0 : Int)).toNat = 0 from rfl] at fB)
     (try rw [Addr.add_zero'] at fB)
     replace mG := eq_true mG
     replace mH := eq_true mH
     go_wp2
     go_loopg [5] k1 (fun kq v5 w' => ∃ (aA : Int), v5 = .int .i64 aA ∧ Aside0 (spec_scGood.l1 kq l0 (rdOf ByteArray.empty l0 aI) aA l0 (l0.length : Int) aI = some r) ∧ Aside0 (kq ≤ k1) ∧ Drawn0 w w')
     case atStart => exact ⟨(0), (Z11), H', ⟨Nat.le_refl _⟩, Z14⟩
     case round =>
      clear H'
      (try clear c2); (try clear eu); (try clear c3); (try clear bA); (try clear c4); (try clear bZ); (try clear c5); (try clear ci); (try clear uz); (try clear c6); (try clear ck); (try clear gN); (try clear AE); (try clear pW); (try clear fB); (try clear mE); (try clear mG); (try clear mF); (try clear mH)
      obtain ⟨aA, rfl, HA, HK2, ⟨m2, rfl⟩⟩ := hrel
      cases gk with
      | zero => exact absurd HA.out (by simp [spec_scGood.l1])
      | succ k2 =>
       have H := HA.out
       clear HA
       simp only [spec_scGood.l1] at H
       by_cases c7 : aA < ((rdOf ByteArray.empty l0 aI).size : Int)
       ·rw [if_pos c7] at H
        have cd : decide (aA < ((rdOf ByteArray.empty l0 aI).size : Int)) = true := decide_eq_true c7
        clear c7
        by_cases c8 : 0 ≤ aA
        case neg => rw [if_neg c8] at H; exact absurd H (by simp)
        rw [if_pos c8] at H
        have ep : decide (0 ≤ aA) = true := decide_eq_true c8
        clear c8
        by_cases c10 : (bt (rdOf ByteArray.empty l0 aI) aA) = 46
        ·rw [if_pos c10] at H
         have b7 : ((bt (rdOf ByteArray.empty l0 aI) aA) == 46) = true := beq_iff_eq.mpr c10
         have gn : ((bt (rdOf ByteArray.empty l0 aI) aA) != 46) = false := bne_eq_false_iff_eq.mpr c10
         clear c10
         have H' := Aside0.mk H
         clear H
         have p9 : 0 ≤ (aA : Int) := of_decide_eq_true (Z8)
         have q9 : aA < ((rdOf ByteArray.empty l0 aI).size : Int) := of_decide_eq_true (Z8)
         have hx9 := bt_at (rdOf ByteArray.empty l0 aI) aA
         replace p9 := eq_true p9
         replace q9 := eq_true q9
         go_wp2
         go_roundg k2
         case measure => have := HK1.out; have := HK2.out; omega
         case rel => exact ⟨(wrap64 (aA + 1)), (Z11), H', ⟨Z50⟩, Z14⟩
        rw [if_neg c10] at H
        have b7 : ((bt (rdOf ByteArray.empty l0 aI) aA) == 46) = false := beq_eq_false_iff_ne.mpr c10
        have gn : ((bt (rdOf ByteArray.empty l0 aI) aA) != 46) = true := bne_iff_ne.mpr c10
        by_cases c12 : (bt (rdOf ByteArray.empty l0 aI) aA) = 111
        ·rw [if_pos c12] at H
         have dp : ((bt (rdOf ByteArray.empty l0 aI) aA) == 111) = true := beq_iff_eq.mpr c12
         have si : ((bt (rdOf ByteArray.empty l0 aI) aA) != 111) = false := bne_eq_false_iff_eq.mpr c12
         clear c12
         have H' := Aside0.mk H
         clear H
         have p9 : 0 ≤ (aA : Int) := of_decide_eq_true (Z8)
         have q9 : aA < ((rdOf ByteArray.empty l0 aI).size : Int) := of_decide_eq_true (Z8)
         have hx9 := bt_at (rdOf ByteArray.empty l0 aI) aA
         replace p9 := eq_true p9
         replace q9 := eq_true q9
         have jP : 0 ≤ (aA : Int) := of_decide_eq_true (Z8)
         have jQ : aA < ((rdOf ByteArray.empty l0 aI).size : Int) := of_decide_eq_true (Z8)
         have hx11 := bt_at (rdOf ByteArray.empty l0 aI) aA
         replace jP := eq_true jP
         replace jQ := eq_true jQ
         go_wp2
         go_roundg k2
         case measure => have := HK1.out; have := HK2.out; omega
         case rel => exact ⟨(wrap64 (aA + 1)), (Z11), H', ⟨Z50⟩, Z14⟩
        rw [if_neg c12] at H
        have dp : ((bt (rdOf ByteArray.empty l0 aI) aA) == 111) = false := beq_eq_false_iff_ne.mpr c12
        have si : ((bt (rdOf ByteArray.empty l0 aI) aA) != 111) = true := bne_iff_ne.mpr c12
        by_cases c14 : (bt (rdOf ByteArray.empty l0 aI) aA) = 63
        ·rw [if_pos c14] at H
         have ee : ((bt (rdOf ByteArray.empty l0 aI) aA) == 63) = true := beq_iff_eq.mpr c14
         have vX : ((bt (rdOf ByteArray.empty l0 aI) aA) != 63) = false := bne_eq_false_iff_eq.mpr c14
         clear c14
         have H' := Aside0.mk H
         clear H
         have p9 : 0 ≤ (aA : Int) := of_decide_eq_true (Z8)
         have q9 : aA < ((rdOf ByteArray.empty l0 aI).size : Int) := of_decide_eq_true (Z8)
         have hx9 := bt_at (rdOf ByteArray.empty l0 aI) aA
         replace p9 := eq_true p9
         replace q9 := eq_true q9
         have jP : 0 ≤ (aA : Int) := of_decide_eq_true (Z8)
         have jQ : aA < ((rdOf ByteArray.empty l0 aI).size : Int) := of_decide_eq_true (Z8)
         have hx11 := bt_at (rdOf ByteArray.empty l0 aI) aA
         replace jP := eq_true jP
         replace jQ := eq_true jQ
         have fS : 0 ≤ (aA : Int) := of_decide_eq_true (Z8)
         have fT : aA < ((rdOf ByteArray.empty l0 aI).size : Int) := of_decide_eq_true (Z8)
         have hx13 := bt_at (rdOf ByteArray.empty l0 aI) aA
         replace fS := eq_true fS
         replace fT := eq_true fT
         go_wp2
         go_roundg k2
         case measure => have := HK1.out; have := HK2.out; omega
         case rel => exact ⟨(wrap64 (aA + 1)), (Z11), H', ⟨Z50⟩, Z14⟩
        rw [if_neg c14] at H
        have ee : ((bt (rdOf ByteArray.empty l0 aI) aA) == 63) = false := beq_eq_false_iff_ne.mpr c14
        have vX : ((bt (rdOf ByteArray.empty l0 aI) aA) != 63) = true := bne_iff_ne.mpr c14
        obtain rfl := Option.some.inj H
        have p9 : 0 ≤ (aA : Int) := of_decide_eq_true (Z8)
        have q9 : aA < ((rdOf ByteArray.empty l0 aI).size : Int) := of_decide_eq_true (Z8)
        have hx9 := bt_at (rdOf ByteArray.empty l0 aI) aA
        replace p9 := eq_true p9
        replace q9 := eq_true q9
        have jP : 0 ≤ (aA : Int) := of_decide_eq_true (Z8)
        have jQ : aA < ((rdOf ByteArray.empty l0 aI).size : Int) := of_decide_eq_true (Z8)
        have hx11 := bt_at (rdOf ByteArray.empty l0 aI) aA
        replace jP := eq_true jP
        replace jQ := eq_true jQ
        have fS : 0 ≤ (aA : Int) := of_decide_eq_true (Z8)
        have fT : aA < ((rdOf ByteArray.empty l0 aI).size : Int) := of_decide_eq_true (Z8)
        have hx13 := bt_at (rdOf ByteArray.empty l0 aI) aA
        replace fS := eq_true fS
        replace fT := eq_true fT
        go_wp2
        go_ret
        exact ⟨Z11, Z14⟩
       rw [if_neg c7] at H
       have cd : decide (aA < ((rdOf ByteArray.empty l0 aI).size : Int)) = false := decide_eq_false c7
       clear c7
       have H' := Aside0.mk H
       clear H
       go_wp2
       go_roundg k2
       case measure => have := HK1.out; have := HK2.out; omega
       case rel => exact ⟨(wrap64 (aI + 1)), (Z11), H', ⟨Z50⟩, Z14⟩
    rw [if_neg c6] at H
    have ck : (((rdOf ByteArray.empty l0 aI).size : Int) == ((rdOf ByteArray.empty l0 0).size : Int)) = false := beq_eq_false_iff_ne.mpr c6
    have gN : (((rdOf ByteArray.empty l0 aI).size : Int) != ((rdOf ByteArray.empty l0 0).size : Int)) = true := bne_iff_ne.mpr c6
    have AE : ((rdOf ByteArray.empty l0 aI).size == (rdOf ByteArray.empty l0 0).size) = false := by first | simpa using c6 | (simp at c6 ⊢; omega)
    obtain rfl := Option.some.inj H
    have mE : 0 ≤ (aI : Int) := of_decide_eq_true (Z8)
    have mF : aI < (l0.length : Int) := of_decide_eq_true (Z8)
    obtain ⟨sg, e522, pW⟩ := Kd.at_string HR0.out aI mE mF
    cases e522
    replace mE := eq_true mE
    replace mF := eq_true mF
    have mG : 0 ≤ (0 : Int) := (by omega)
    have mH : 0 < (l0.length : Int) := of_decide_eq_true (Z8)
    obtain ⟨sh, e523, fB⟩ := Kd.at_string HR0.out 0 mG mH
    obtain rfl : sg = sh := (by injection e523)
    have qi523 : (0 < l0.length) = True := eq_true (by omega)
    (try rw [show ((0 : Int)).toNat = 0 from rfl] at fB)
    (try rw [Addr.add_zero'] at fB)
    replace mG := eq_true mG
    replace mH := eq_true mH
    go_wp2
    go_ret
    exact ⟨Z11, Z14⟩
   rw [if_neg c2] at H
   have eu : decide (aI < (l0.length : Int)) = false := decide_eq_false c2
   clear c2
   obtain ⟨yp, Cn, H⟩ := bd_ H
   (try dsimp only at H)
   by_cases c16 : yp = true
   ·subst c16
    rw [if_pos rfl] at H
    by_cases c17 : 0 < (l0.length : Int)
    case neg => rw [if_neg c17] at H; exact absurd H (by simp)
    rw [if_pos c17] at H
    have gf : decide (0 < (l0.length : Int)) = true := decide_eq_true c17
    have pN : decide (0 < l0.length) = true := decide_eq_true (by omega)
    clear c17
    obtain ⟨uy, Cm, H⟩ := bd_ H
    replace H : (some uy) = some r := H
    obtain rfl := Option.some.inj H
    go_wp2_with (first | ((with_reducible refine gate_callee (f := 33) rfl ?_); refine gl_ 44 Tryz.func33 #[.int .i64 (l0.length : Int), .int .i64 1, .int .i64 60] ?_; (with_reducible refine (spec_l1In.calls (l0.length : Int) 1 60 true _ Cn.out).mono ?_); rintro e w' ⟨rfl, ⟨nd, rfl⟩⟩; refine ⟨_, rfl, ?_⟩; have yq : 0 ≤ (0 : Int) := (by omega); have yr : 0 < (l0.length : Int) := of_decide_eq_true (Z8); obtain ⟨ad520, e520, pX⟩ := Kd.at_string HR0.out 0 yq yr; cases e520; have qi520 : (0 < l0.length) = True := eq_true (by omega); (try rw [show ((0 : Int)).toNat = 0 from rfl] at pX); (try rw [Addr.add_zero'] at pX); replace yq := eq_true yq; replace yr := eq_true yr) | (go_at_call 33; (with_reducible refine (spec_l1In.calls ((rdOf ByteArray.empty l0 0).size : Int) 1 20 uy _ Cm.out).mono ?_); rintro e w' ⟨rfl, ⟨nd, rfl⟩⟩))
    go_ret
    exact ⟨Z11, Z14⟩
   replace c16 := Bool.eq_false_iff.mpr c16
   subst c16
   rw [if_neg (show ¬ (false = true) by decide)] at H
   obtain rfl := Option.some.inj H
   go_wp2_with ((with_reducible refine gate_callee (f := 33) rfl ?_); refine gl_ 44 Tryz.func33 #[.int .i64 (l0.length : Int), .int .i64 1, .int .i64 60] ?_; (with_reducible refine (spec_l1In.calls (l0.length : Int) 1 60 false _ Cn.out).mono ?_); rintro e w' ⟨rfl, ⟨nd, rfl⟩⟩; refine ⟨_, rfl, ?_⟩)
   go_ret
   exact ⟨Z11, Z14⟩

/-! ### spec_scFill: function 43 -/
mutual
def spec_scFill.l0 : Nat → ByteArray → List ByteArray → List ByteArray → Int → Int → Option (List ByteArray)
 | 0, _, _, _, _, _ => none
 | k + 1, x1, x5, x10, x11, x12 => if x12 < x11 then (if 0 ≤ x12 then (if x12 < (x10.length : Int) then (spec_scFill.l1 k x1 x5 (rdOf ByteArray.empty x10 x12) (⟨#[]⟩ : ByteArray) 0 x10 x11 x12) else (none)) else (none)) else (some x5)
def spec_scFill.l1 : Nat → ByteArray → List ByteArray → ByteArray → ByteArray → Int → List ByteArray → Int → Int → Option (List ByteArray)
 | 0, _, _, _, _, _, _, _, _ => none
 | k + 1, x1, x5, x7, x8, x9, x10, x11, x12 => if x9 < (x7.size : Int) then (if 0 ≤ x9 then (if (bt x7 x9) = 63 then (if x8.size + x1.size ≤ 9223372036854775807 then (spec_scFill.l1 k x1 x5 x7 (x8 ++ x1) (wrap64 (x9 + 1)) x10 x11 x12) else (none)) else (if x9 ≤ (wrap64 (x9 + 1)) then (if (wrap64 (x9 + 1)) ≤ (x7.size : Int) then (if x8.size + (x7.extract (x9 : Int).toNat ((wrap64 (x9 + 1)) : Int).toNat).size ≤ 9223372036854775807 then (spec_scFill.l1 k x1 x5 x7 (x8 ++ (x7.extract (x9 : Int).toNat ((wrap64 (x9 + 1)) : Int).toNat)) (wrap64 (x9 + 1)) x10 x11 x12) else (none)) else (none)) else (none))) else (none)) else (if x5.length < 8796093022208 then (spec_scFill.l0 k x1 (x5 ++ [x8]) x10 x11 (wrap64 (x12 + 1))) else (none))
end
def spec_scFill.f (k : Nat) (l0 : List ByteArray) (a1 : ByteArray) : Option (List ByteArray) := spec_scFill.l0 k a1 ([] : List ByteArray) l0 (l0.length : Int) 0
theorem spec_scFill.mono_l : ∀ k, (∀ y0 y1 y2 y3 y4, LeO (spec_scFill.l0 k y0 y1 y2 y3 y4) (spec_scFill.l0 (k + 1) y0 y1 y2 y3 y4)) ∧ (∀ y0 y1 y2 y3 y4 y5 y6 y7, LeO (spec_scFill.l1 k y0 y1 y2 y3 y4 y5 y6 y7) (spec_scFill.l1 (k + 1) y0 y1 y2 y3 y4 y5 y6 y7))
 | 0 => ⟨fun _ _ _ _ _ r h => by simp [spec_scFill.l0] at h, fun _ _ _ _ _ _ _ _ r h => by simp [spec_scFill.l1] at h⟩
 | k + 1 => by
  obtain ⟨ih0, ih1⟩ := spec_scFill.mono_l k
  refine ⟨?_, ?_⟩
  ·intro y0 y1 y2 y3 y4
   unfold spec_scFill.l0
   exact mo13_
  intro y0 y1 y2 y3 y4 y5 y6 y7
  unfold spec_scFill.l1
  exact mo13_
theorem spec_scFill.mono : ∀ a0 a1 k, LeO (spec_scFill.f k a0 a1) (spec_scFill.f (k + 1) a0 a1) := by
 intro a0 a1 k
 obtain ⟨ih0, ih1⟩ := spec_scFill.mono_l k
 unfold spec_scFill.f
 exact mo13_
set_option maxHeartbeats 8000000 in
set_option maxRecDepth 100000 in
theorem spec_scFill.calls (k : Nat) (A0 : Option Addr) (c0 : Nat) (l0 : List ByteArray) (a1 : ByteArray) (r : List ByteArray) (w : World) (hr0 : Kd.C Kd.string w A0 l0.length l0) (hc0 : l0.length ≤ c0) (h : spec_scFill.f k l0 a1 = some r) :
  Calls Tryz.prog 43 #[.slice A0 l0.length c0, .string a1] w fun e w' => ∃ v0_ : Value, e = .returned (v0_) ∧ Kd.R Kd.string 9 w' w.heap.size (fun _ => True) v0_ r ∧ Below w.heap.size w w' := by
 have HR0 := Aside0.mk hr0
 have HC0 := Aside0.mk hc0
 clear hr0 hc0
 have HB := Aside0.mk (Below.refl w.heap.size w)
 have H : (spec_scFill.l0 k a1 ([] : List ByteArray) l0 (l0.length : Int) 0) = some r := h
 clear h
 have H' := Aside0.mk H
 clear H
 go_enter Tryz.func43, Tryz.ntmps43
 go_wp2
 go_loopg [5, 12] k (fun kq v5 CC w' => ∃ (ag : List ByteArray) (ac : Int), CC = .int .i64 ac ∧ Aside0 (spec_scFill.l0 kq a1 ag l0 (l0.length : Int) ac = some r) ∧ Aside0 (kq ≤ k) ∧ Aside0 (Kd.R Kd.string 9 w' w.heap.size (fun _ => True) v5 ag) ∧ Aside0 (Below w.heap.size w w'))
 case atStart => exact ⟨(([] : List ByteArray)), (0), (Z11), H', ⟨Nat.le_refl _⟩, ⟨Z15⟩, ⟨Z2⟩⟩
 case round =>
  clear H'
  obtain ⟨ag, ac, rfl, HA, HK1, ai, HB⟩ := hrel
  cases gk with
  | zero => exact absurd HA.out (by simp [spec_scFill.l0])
  | succ k1 =>
   have H := HA.out
   clear HA
   simp only [spec_scFill.l0] at H
   by_cases c3 : ac < (l0.length : Int)
   ·rw [if_pos c3] at H
    have bA : decide (ac < (l0.length : Int)) = true := decide_eq_true c3
    clear c3
    by_cases c4 : 0 ≤ ac
    case neg => rw [if_neg c4] at H; exact absurd H (by simp)
    rw [if_pos c4] at H
    have bZ : decide (0 ≤ ac) = true := decide_eq_true c4
    clear c4
    by_cases c5 : ac < (l0.length : Int)
    case neg => rw [if_neg c5] at H; exact absurd H (by simp)
    rw [if_pos c5] at H
    have ci : decide (ac < (l0.length : Int)) = true := decide_eq_true c5
    clear c5
    have H' := Aside0.mk H
    clear H
    have uA : 0 ≤ (ac : Int) := of_decide_eq_true (Z8)
    have uB : ac < (l0.length : Int) := of_decide_eq_true (Z8)
    obtain ⟨ad524, e524, im⟩ := Kd.at_string HR0.out ac uA uB
    cases e524
    replace im := (HB.out.cell (World.block_lt_of_cell? w _ im)).trans im
    replace uA := eq_true uA
    replace uB := eq_true uB
    go_wp2
    go_loopg [8, 9] k1 (fun kq v8 v9 w' => ∃ (go : ByteArray) (bB : Int), v8 = .string go ∧ v9 = .int .i64 bB ∧ Aside0 (spec_scFill.l1 kq a1 ag (rdOf ByteArray.empty l0 ac) go bB l0 (l0.length : Int) ac = some r) ∧ Aside0 (kq ≤ k1) ∧ Aside0 (Kd.R Kd.string 9 w' w.heap.size (fun _ => True) u5 ag) ∧ Aside0 (Below w.heap.size w w'))
    case atStart => exact ⟨((⟨#[]⟩ : ByteArray)), (0), (Z11), (Z11), H', ⟨Nat.le_refl _⟩, ⟨Z3 ai⟩, ⟨Z2⟩⟩
    case round =>
     clear H'
     (try clear c3); (try clear bA); (try clear c4); (try clear bZ); (try clear c5); (try clear ci); (try clear im); (try clear uA); (try clear uB)
     obtain ⟨go, bB, rfl, rfl, HA, HK2, ai, HB⟩ := hrel
     cases gk with
     | zero => exact absurd HA.out (by simp [spec_scFill.l1])
     | succ k2 =>
      have H := HA.out
      clear HA
      simp only [spec_scFill.l1] at H
      by_cases c6 : bB < ((rdOf ByteArray.empty l0 ac).size : Int)
      ·rw [if_pos c6] at H
       have ck : decide (bB < ((rdOf ByteArray.empty l0 ac).size : Int)) = true := decide_eq_true c6
       clear c6
       by_cases c7 : 0 ≤ bB
       case neg => rw [if_neg c7] at H; exact absurd H (by simp)
       rw [if_pos c7] at H
       have cd : decide (0 ≤ bB) = true := decide_eq_true c7
       clear c7
       by_cases c9 : (bt (rdOf ByteArray.empty l0 ac) bB) = 63
       ·rw [if_pos c9] at H
        have gM : ((bt (rdOf ByteArray.empty l0 ac) bB) == 63) = true := beq_iff_eq.mpr c9
        have qr : ((bt (rdOf ByteArray.empty l0 ac) bB) != 63) = false := bne_eq_false_iff_eq.mpr c9
        clear c9
        by_cases c10 : go.size + a1.size ≤ 9223372036854775807
        case neg => rw [if_neg c10] at H; exact absurd H (by simp)
        rw [if_pos c10] at H
        have b7 := eq_true c10
        have gn : decide (go.size + a1.size ≤ 9223372036854775807) = true := decide_eq_true c10
        try have c10b2 : (9223372036854775807 < go.size + a1.size) = False := eq_false (Nat.not_lt.2 c10)
        have H' := Aside0.mk H
        clear H
        have p8 : 0 ≤ (bB : Int) := of_decide_eq_true (Z8)
        have q8 : bB < ((rdOf ByteArray.empty l0 ac).size : Int) := of_decide_eq_true (Z8)
        have hx8 := bt_at (rdOf ByteArray.empty l0 ac) bB
        replace p8 := eq_true p8
        replace q8 := eq_true q8
        go_wp2
        go_roundg k2
        case measure => have := HK1.out; have := HK2.out; omega
        case rel => exact ⟨(go ++ a1), (wrap64 (bB + 1)), (Z11), (Z11), H', ⟨Z50⟩, ⟨Z3 ai⟩, ⟨Z2⟩⟩
       rw [if_neg c9] at H
       have gM : ((bt (rdOf ByteArray.empty l0 ac) bB) == 63) = false := beq_eq_false_iff_ne.mpr c9
       have qr : ((bt (rdOf ByteArray.empty l0 ac) bB) != 63) = true := bne_iff_ne.mpr c9
       have eM := eq_true (of_decide_eq_true (Z8) : 0 ≤ bB)
       by_cases c12 : bB ≤ (wrap64 (bB + 1))
       case neg => rw [if_neg c12] at H; exact absurd H (by simp)
       rw [if_pos c12] at H
       have dp := eq_true c12
       have si : decide (bB ≤ (wrap64 (bB + 1))) = true := decide_eq_true c12
       by_cases c13 : (wrap64 (bB + 1)) ≤ ((rdOf ByteArray.empty l0 ac).size : Int)
       case neg => rw [if_neg c13] at H; exact absurd H (by simp)
       rw [if_pos c13] at H
       have cq := eq_true c13
       have mI : decide ((wrap64 (bB + 1)) ≤ ((rdOf ByteArray.empty l0 ac).size : Int)) = true := decide_eq_true c13
       by_cases c14 : go.size + ((rdOf ByteArray.empty l0 ac).extract (bB : Int).toNat ((wrap64 (bB + 1)) : Int).toNat).size ≤ 9223372036854775807
       case neg => rw [if_neg c14] at H; exact absurd H (by simp)
       rw [if_pos c14] at H
       have ee := eq_true c14
       have vX : decide (go.size + ((rdOf ByteArray.empty l0 ac).extract (bB : Int).toNat ((wrap64 (bB + 1)) : Int).toNat).size ≤ 9223372036854775807) = true := decide_eq_true c14
       try have c14b2 : (9223372036854775807 < go.size + ((rdOf ByteArray.empty l0 ac).extract (bB : Int).toNat ((wrap64 (bB + 1)) : Int).toNat).size) = False := eq_false (Nat.not_lt.2 c14)
       have H' := Aside0.mk H
       clear H
       have p8 : 0 ≤ (bB : Int) := of_decide_eq_true (Z8)
       have q8 : bB < ((rdOf ByteArray.empty l0 ac).size : Int) := of_decide_eq_true (Z8)
       have hx8 := bt_at (rdOf ByteArray.empty l0 ac) bB
       replace p8 := eq_true p8
       replace q8 := eq_true q8
       go_wp2
       go_roundg k2
       case measure => have := HK1.out; have := HK2.out; omega
       case rel => exact ⟨(go ++ ((rdOf ByteArray.empty l0 ac).extract (bB : Int).toNat ((wrap64 (bB + 1)) : Int).toNat)), (wrap64 (bB + 1)), (Z11), (Z11), H', ⟨Z50⟩, ⟨Z3 ai⟩, ⟨Z2⟩⟩
      rw [if_neg c6] at H
      have ck : decide (bB < ((rdOf ByteArray.empty l0 ac).size : Int)) = false := decide_eq_false c6
      clear c6
      by_cases c15 : ag.length < 8796093022208
      case neg => rw [if_neg c15] at H; exact absurd H (by simp)
      rw [if_pos c15] at H
      have sk := Aside0.mk c15
      clear c15
      obtain ⟨AF, mJ⟩ : ∃ y_ : List ByteArray, y_ = (ag ++ [go]) := ⟨_, rfl⟩
      replace H : (spec_scFill.l0 k2 a1 AF l0 (l0.length : Int) (wrap64 (ac + 1))) = some r := by first | (rw [mJ]; with_reducible exact H) | (have H2_ := (Option.bind_some _ _).symm.trans H; rw [mJ]; with_reducible exact H2_) | (have H2_ := (Option.bind_some _ _).symm.trans H; with_reducible exact H2_) | with_reducible exact H | (rw [mJ]; exact H) | exact H
      have Ny525 := Aside0.mk mJ
      clear mJ
      have H' := Aside0.mk H
      clear H
      go_wp2_with ((with_reducible refine gate_builtin (b := .append) (xs := #[.tmp 36, .tmp 38]) rfl ?_); at_builtin; refine Kd.R_append Kd.string (w0 := w) w.heap.size rfl (.tmp 36) (.tmp 38) 27 9 (.string ⟨#[]⟩) 16 rfl Tryz.underlying27 info9 rfl (by decide) (by omega) u5 ag go [.string go] (fun _ => True) (fun _ => False) rfl rfl ?aP (fun _ hk => hk.elim) ?aF ?aO ?aB ?aS ?aL ?_; (case aP => exact rfl); (case aB => exact Z2); (case aF => exact (fun _ _ => trivial)); (case aO => exact (Z3 ai)); (case aS => exact (below_size (Z2))); (case aL => exact Z83 sk); intro v526 mx ho hb hg hat; rw [← Ny525.out] at ho; refine k2_ (hb) (ho) ?_; clear HB ai; intro HB HO527; clear ho hb hg hat)
      go_roundg k2
      case measure => have := HK1.out; have := HK2.out; omega
      case rel => exact ⟨(AF), (wrap64 (ac + 1)), (Z11), H', ⟨Z50⟩, ⟨Z3 HO527⟩, ⟨Z2⟩⟩
   rw [if_neg c3] at H
   have bA : decide (ac < (l0.length : Int)) = false := decide_eq_false c3
   clear c3
   obtain rfl := Option.some.inj H
   go_wp2
   go_ret
   exact ⟨_, Z9, Z3 ai, Z2⟩

/-! ### spec_l1Cur_of: function 44 -/
def spec_l1Cur_of.f (s0_0 : List Int) (s0_1 : Int) (s0_2 : Int) (l1 : List ByteArray) : Option (ByteArray × Int × Int) := (spec_l1Cur_pick.f s0_0 s0_1 s0_2 (l1.length : Int)).bind fun fb => (if 0 ≤ fb.1 then (if fb.1 < (l1.length : Int) then (some (rdOf ByteArray.empty l1 fb.1, fb.2.1, fb.2.2)) else (none)) else (none))
set_option maxHeartbeats 8000000 in
set_option maxRecDepth 100000 in
theorem spec_l1Cur_of.calls (g : Nat) (s0_0 : List Int) (s0_1 : Int) (s0_2 : Int) (A1 : Option Addr) (c1 : Nat) (l1 : List ByteArray) (r1 : ByteArray) (r2 : Int) (r3 : Int) (w0 w : World) (hI : IsS49 w0 w g s0_0 s0_1 s0_2) (hB : Below w0.heap.size w0 w) (hr1 : Kd.C Kd.string w A1 l1.length l1) (hc1 : l1.length ≤ c1) (hf1 : ∀ ad, A1 = some ad → 0 < l1.length → ad.block ≠ g) (h : spec_l1Cur_of.f s0_0 s0_1 s0_2 l1 = some (r1, r2, r3)) :
  Calls Tryz.prog 44 #[.pointer (some ⟨g, 0, none⟩), .slice A1 l1.length c1] w fun e w' => e = .returned (.string r1) ∧ IsS49 w0 w' g s0_0 r2 r3 ∧ Below w0.heap.size w0 w' ∧ KeepBut w w' g none := by
 have HR1 := Aside0.mk hr1
 have HC1 := Aside0.mk hc1
 clear hr1 hc1
 have HI0 := Aside0.mk hI
 have HK := Aside0.mk (KeepBut.refl w g none)
 have HL := Aside0.mk hB.size
 clear hI
 have HW0 := Aside0.mk hB.size
 have HB := Aside0.mk hB
 clear hB
 have H : ((spec_l1Cur_pick.f s0_0 s0_1 s0_2 (l1.length : Int)).bind fun fb => (if 0 ≤ fb.1 then (if fb.1 < (l1.length : Int) then (some (rdOf ByteArray.empty l1 fb.1, fb.2.1, fb.2.2)) else (none)) else (none))) = some (r1, r2, r3) := h
 clear h
 obtain ⟨⟨mK, t529, t530⟩, A3, H⟩ := bd_ H
 (try dsimp only at H)
 by_cases c4 : 0 ≤ mK
 case neg => rw [if_neg c4] at H; exact absurd H (by simp)
 rw [if_pos c4] at H
 have bZ : decide (0 ≤ mK) = true := decide_eq_true c4
 clear c4
 by_cases c5 : mK < (l1.length : Int)
 case neg => rw [if_neg c5] at H; exact absurd H (by simp)
 rw [if_pos c5] at H
 have ci : decide (mK < (l1.length : Int)) = true := decide_eq_true c5
 clear c5
 simp only [Option.some.injEq, Prod.mk.injEq] at H
 obtain ⟨rfl, rfl, rfl⟩ := H
 go_enter Tryz.func44, Tryz.ntmps44
 go_wp2_with ((with_reducible refine gate_callee (f := 52) rfl ?_); refine gl_ 9 Tryz.func52 #[.pointer (some ⟨g, 0, none⟩), .int .i64 (l1.length : Int)] ?_; (with_reducible refine (spec_l1Cur_pick.calls g s0_0 s0_1 s0_2 (l1.length : Int) mK t529 t530 w0 _ ?_ ?_ A3.out).mono ?_); exact (Z4 HI0); exact Z6; rintro e w6 ⟨rfl, hi, hb, hk⟩; refine ⟨_, rfl, ?_⟩; refine k3_ (KeepBut.trans (Z5) hk (.inl rfl)) (hb) (hi) ?_; clear HK HB HI0; intro HK HB HI0; (try clear hb hk hi); have yt : 0 ≤ (mK : Int) := of_decide_eq_true (Z8); have yu : mK < (l1.length : Int) := of_decide_eq_true (Z8); obtain ⟨ad531, e531, pY⟩ := Kd.at_string HR1.out mK yt yu; cases e531; replace pY := keep_cell HK.out pY (by first | (rw [add_block]; exact hf1 _ rfl (by omega)) | exact hf1 _ rfl (by omega) | exact hf1 ad531 rfl (by omega)); replace yt := eq_true yt; replace yu := eq_true yu)
 go_ret
 exact ⟨Z9, Z4 HI0, Z6, Z5⟩

/-! ### spec_DrawHolesIn: function 15 -/
def spec_DrawHolesIn.j0 : Nat → List ByteArray → Bool → List Int → Int → Int → Option (List ByteArray)
 | 0, _, _, _, _, _ => none
 | k + 1, x4, x16, x533000, x533001, x533002 => if x16 = true then ((spec_l1Cur_of.f x533000 x533001 x533002 (([(⟨#[46]⟩ : ByteArray), (⟨#[111]⟩ : ByteArray)] : List ByteArray))).bind fun sl => ((spec_scFill.f k x4 sl.1).bind fun qE => (some qE))) else (some x4)
def spec_DrawHolesIn.f (k : Nat) (l0 : List Int) : Option (List ByteArray) := (spec_l1Cur_scan.f k l0 0 0).bind fun dJ => ((spec_scGood.f k dJ.1).bind fun sm => (if sm = true then ((spec_l1Cur_one.f l0 dJ.2.1 dJ.2.2 3).bind fun iU => (spec_DrawHolesIn.j0 k dJ.1 (!iU.1) l0 iU.2.1 iU.2.2)) else (spec_DrawHolesIn.j0 k dJ.1 false l0 dJ.2.1 dJ.2.2)))
theorem spec_DrawHolesIn.mono_l : ∀ k, (∀ y0 y1 y2 y3 y4, LeO (spec_DrawHolesIn.j0 k y0 y1 y2 y3 y4) (spec_DrawHolesIn.j0 (k + 1) y0 y1 y2 y3 y4))
 | 0 => fun _ _ _ _ _ r h => by simp [spec_DrawHolesIn.j0] at h
 | k + 1 => by
  have ih0 := spec_DrawHolesIn.mono_l k
  ·intro y0 y1 y2 y3 y4
   unfold spec_DrawHolesIn.j0
   exact mo13_
theorem spec_DrawHolesIn.mono : ∀ a0 k, LeO (spec_DrawHolesIn.f k a0) (spec_DrawHolesIn.f (k + 1) a0) := by
 intro a0 k
 have ih0 := spec_DrawHolesIn.mono_l k
 unfold spec_DrawHolesIn.f
 exact mo13_
set_option maxHeartbeats 8000000 in
set_option maxRecDepth 100000 in
theorem spec_DrawHolesIn.calls (k : Nat) (A0 : Option Addr) (c0 : Nat) (l0 : List Int) (r : List ByteArray) (w : World) (hr0 : Kd.C (Kd.int .u8) w A0 l0.length l0) (hc0 : l0.length ≤ c0) (h : spec_DrawHolesIn.f k l0 = some r) :
  Calls Tryz.prog 15 #[.slice A0 l0.length c0] w fun e w' => ∃ v0_ : Value, e = .returned (v0_) ∧ Kd.R Kd.string 9 w' w.heap.size (fun _ => True) v0_ r ∧ Below w.heap.size w w' := by
 have hu49 := Tryz.underlying49
 have HR0 := Aside0.mk hr0
 have HC0 := Aside0.mk hc0
 clear hr0 hc0
 have HB := Aside0.mk (Below.refl w.heap.size w)
 have H : ((spec_l1Cur_scan.f k l0 0 0).bind fun dJ => ((spec_scGood.f k dJ.1).bind fun sm => (if sm = true then ((spec_l1Cur_one.f l0 dJ.2.1 dJ.2.2 3).bind fun iU => (spec_DrawHolesIn.j0 k dJ.1 (!iU.1) l0 iU.2.1 iU.2.2)) else (spec_DrawHolesIn.j0 k dJ.1 false l0 dJ.2.1 dJ.2.2)))) = some r := h
 clear h
 obtain ⟨⟨jR, uC, uD⟩, A2, H⟩ := bd_ H
 (try dsimp only at H)
 have HC3 := Aside0.mk H
 clear H
 go_enter Tryz.func15, Tryz.ntmps15
 go_upto_region 3 with (first | ((with_reducible refine gate_dst (N := 7) rfl ?_); refine bv_ 7 49 #[.slice A0 l0.length c0, .int .i64 0, .int .u64 0] ?_; intro eN hg w4 hbox hb; refine k4_ (below_step (Z2) hb) ((show IsS49 w w4 eN l0 0 0 from ⟨_, _, hbox, (Z33), HR0.out⟩)) ((Z33 : w.heap.size ≤ eN)) ((Z33 : w.heap.size ≤ eN)) ?_; clear HB; intro HB HI532 GW532 GE532; clear hb hbox hg) | ((with_reducible refine gate_callee (f := 40) rfl ?_); refine gl_ 9 Tryz.func40 #[.pointer (some ⟨eN, 0, none⟩)] ?_; (with_reducible refine (spec_l1Cur_scan.calls k eN l0 0 0 jR uC uD w _ ?_ ?_ A2.out).mono ?_); exact (Z4 HI532); exact Z34; rintro e w5 ⟨v534, rfl, ho0, hi, hb, hk⟩; refine ⟨_, rfl, ?_⟩; refine k3_ (Kd.R_lower ho0 (below_size (Z34))) (hb) (hi) ?_; clear HB HI532; intro fc HB HI532; (try clear hb hk hi ho0)))
 (try simp only [Act.put, List.setIfInBounds_toArray, List.set_cons_zero, List.set_cons_succ])
 go_cut [16] (fun v16 wc => ∃ (kq : Nat) (pZ : Bool) (df : Int) (dg : Int), v16 = .bool pZ ∧ Aside0 (spec_DrawHolesIn.j0 kq jR pZ l0 df dg = some r) ∧ Aside0 (kq ≤ k) ∧ Aside0 (Kd.R Kd.string 9 wc w.heap.size (fun _ => True) v534 jR) ∧ Aside0 (IsS49 w wc eN l0 df dg) ∧ Aside0 (Below w.heap.size w wc))
 case first =>
  have H := HC3.out
  clear HC3
  obtain ⟨sm, A6, H⟩ := bd_ H
  (try dsimp only at H)
  by_cases c7 : sm = true
  ·subst c7
   rw [if_pos rfl] at H
   obtain ⟨⟨AG, AH, AJ⟩, A8, H⟩ := bd_ H
   (try dsimp only at H)
   have H' := Aside0.mk H
   clear H
   obtain ⟨Ao9, co9, eo9⟩ := Kd.R_slice fc.out
   subst eo9
   go_wp2_with (first | ((with_reducible refine gate_callee (f := 41) rfl ?_); refine gl_ 11 Tryz.func41 #[.slice Ao9 jR.length co9] ?_; (with_reducible refine (spec_scGood.calls k _ _ jR true _ ?_ ?_ A6.out).mono ?_); exact (Z1 fc); exact (Kd.R_reads' fc.out).2.1; rintro e w' ⟨rfl, ⟨nd, rfl⟩⟩; refine ⟨_, rfl, ?_⟩) | (go_at_call 42; (with_reducible refine (spec_l1Cur_one.calls eN l0 uC uD 3 AG AH AJ w _ ?_ ?_ A8.out).mono ?_); exact (Z4 HI532); exact Z34; rintro e pL ⟨rfl, hi, hb, hk⟩; refine k3_ (Kd.R_mono (Kd.R_keep (IsS49.apart (show IsS49 w _ eN l0 uC uD from Z4 HI532) (Z3 fc) (by decide)) hk (fun _ h => h.2)) (fun _ h => h.1)) (hb) (hi) ?_; clear fc HB HI532; intro fc HB HI532; (try clear hb hk hi)))
   go_meet
   case rel => exact ⟨_, (!AG), (AH), (AJ), (Z11), H', ⟨Z69⟩, ⟨Z3 fc⟩, ⟨Z4 HI532⟩, ⟨Z34⟩⟩
  replace c7 := Bool.eq_false_iff.mpr c7
  subst c7
  rw [if_neg (show ¬ (false = true) by decide)] at H
  have H' := Aside0.mk H
  clear H
  obtain ⟨o4, o5, lx⟩ := Kd.R_slice fc.out
  subst lx
  go_wp2_with ((with_reducible refine gate_callee (f := 41) rfl ?_); refine gl_ 11 Tryz.func41 #[.slice o4 jR.length o5] ?_; (with_reducible refine (spec_scGood.calls k _ _ jR false _ ?_ ?_ A6.out).mono ?_); exact (Z1 fc); exact (Kd.R_reads' fc.out).2.1; rintro e w' ⟨rfl, ⟨nd, rfl⟩⟩; refine ⟨_, rfl, ?_⟩)
  go_meet
  case rel => exact ⟨_, (false), (uC), (uD), (Z11), H', ⟨Z69⟩, ⟨Z3 fc⟩, ⟨Z4 HI532⟩, ⟨Z34⟩⟩
 case rest =>
  clear HC3
  obtain ⟨kq, pZ, df, dg, rfl, HA, l4, ae, HI532, HB⟩ := hcut
  cases kq with
  | zero => exact absurd HA.out (by simp [spec_DrawHolesIn.j0])
  | succ ua =>
   have H := HA.out
   clear HA
   simp only [spec_DrawHolesIn.j0] at H
   by_cases c12 : pZ = true
   ·subst c12
    rw [if_pos rfl] at H
    obtain ⟨yv, mL⟩ : ∃ y_ : List ByteArray, y_ = (([(⟨#[46]⟩ : ByteArray), (⟨#[111]⟩ : ByteArray)] : List ByteArray)) := ⟨_, rfl⟩
    replace H : ((spec_l1Cur_of.f l0 df dg yv).bind fun sl => ((spec_scFill.f ua jR sl.1).bind fun qE => (some qE))) = some r := by first | (rw [mL]; with_reducible exact H) | (have H2_ := (Option.bind_some _ _).symm.trans H; rw [mL]; with_reducible exact H2_) | (have H2_ := (Option.bind_some _ _).symm.trans H; with_reducible exact H2_) | with_reducible exact H | (rw [mL]; exact H) | exact H
    have vY := Aside0.mk mL
    clear mL
    obtain ⟨⟨yw, t546, t547⟩, A13, H⟩ := bd_ H
    (try dsimp only at H)
    obtain ⟨qE, lu, H⟩ := bd_ H
    replace H : (some qE) = some r := H
    obtain rfl := Option.some.inj H
    go_wp2_with (first | ((with_reducible refine gate_dst (N := 19) rfl ?_); refine Kd.R_lit Kd.string _ 9 ?hg (N := 19) ?hd (xs := ([(⟨#[46]⟩ : ByteArray), (⟨#[111]⟩ : ByteArray)] : List ByteArray)) (inner := [.string (⟨#[46]⟩ : ByteArray), .string (⟨#[111]⟩ : ByteArray)]) (ok := fun _ => True) (okp := fun _ => True) ?hr ?hp (fun _ hk => hk) trivial (Below.refl _ _) (Nat.le_refl _) (by simp) ?_; (case hd => rfl); (case hg => rfl); (case hr => exact Z41); (case hp => exact (Reps.one (show Kd.M Kd.string _ _ _ (⟨#[46]⟩ : ByteArray) [.string (⟨#[46]⟩ : ByteArray)] from rfl) (Reps.one (show Kd.M Kd.string _ _ _ (⟨#[111]⟩ : ByteArray) [.string (⟨#[111]⟩ : ByteArray)] from rfl) (Reps.none _ _)))); intro v543 il ho16 hb hg_ hnew_; clear hg_ hnew_; (first | rw [← vY.out] at ho16 | (simp only [Int.reduceToNat] at ho16; rw [← vY.out] at ho16)); refine k4_ (Kd.R_elder' (Z3 ae) (Kd.R_base ho16) hb) (Kd.R_lower (Kd.R_new' ho16 (Yd_ ae)) (below_size (Z34))) (IsS49.below (Z4 HI532) hb) (below_step (Z34) hb) ?_; clear ae HI532 HB; intro ae fd HI532 HB; clear hb ho16; obtain ⟨AL, AM, yx⟩ := Kd.R_slice fd.out; subst yx) | ((with_reducible refine gate_callee (f := 44) rfl ?_); refine gl_ 20 Tryz.func44 #[.pointer (some ⟨eN, 0, none⟩), .slice AL yv.length AM] ?_; (with_reducible refine (spec_l1Cur_of.calls eN l0 df dg _ _ yv yw t546 t547 w _ ?_ ?_ ?_ ?_ ?_ A13.out).mono ?_); exact (Z4 HI532); exact Z34; exact (Z1 fd); exact (Kd.R_reads' fd.out).2.1; exact far_slice (IsS49.own_ne HI532.out fd.out (by decide)); rintro e yy ⟨rfl, hi, hb, hk⟩; refine ⟨_, rfl, ?_⟩; refine k4_ (Kd.R_mono (Kd.R_keep (IsS49.apart (show IsS49 w _ eN l0 df dg from Z4 HI532) (Z3 ae) (by decide)) hk (fun _ h => h.2)) (fun _ h => h.1)) (Kd.R_mono (Kd.R_keep (IsS49.apart (show IsS49 w _ eN l0 df dg from Z4 HI532) (Z3 fd) (by decide)) hk (fun _ h => h.2)) (fun _ h => h.1)) (hb) (hi) ?_; clear ae fd HB HI532; intro ae fd HB HI532; (try clear hb hk hi); obtain ⟨yz, yA, yB⟩ := Kd.R_slice ae.out; subst yB) | ((with_reducible refine gate_callee (f := 43) rfl ?_); refine gl_ 21 Tryz.func43 #[.slice yz jR.length yA, .string yw] ?_; (with_reducible refine (spec_scFill.calls ua _ _ jR yw qE _ ?_ ?_ lu.out).mono ?_); exact (Z1 ae); exact (Kd.R_reads' ae.out).2.1; rintro e yC ⟨v549, rfl, ho0, hb⟩; refine ⟨_, rfl, ?_⟩; refine k5_ (Yb_ ae) (Yb_ fd) (Kd.R_lower (Kd.R_new' (Kd.R_new' ho0 (Yd_ ae)) (Yd_ fd)) (below_size (Z34))) (IsS49.below (Z4 HI532) hb) (below_step (Z34) hb) ?_; clear ae fd HI532 HB; intro ae fd HO550 HI532 HB; (try clear hb ho0)))
    go_ret
    exact ⟨_, Z9, Z25 HO550, Z34⟩
   replace c12 := Bool.eq_false_iff.mpr c12
   subst c12
   rw [if_neg (show ¬ (false = true) by decide)] at H
   obtain rfl := Option.some.inj H
   go_wp2
   go_ret
   exact ⟨_, Z9, Z3 ae, Z34⟩

/-! ### slices_Clone_Hole: function 64: by this session -/
def slices_Clone_Hole.f (l0 : List (S55)) : Option (List (S55)) := if l0.length ≤ 5864062014805 then some l0 else none
set_option maxHeartbeats 8000000 in
set_option maxRecDepth 100000 in
theorem slices_Clone_Hole.calls (A0 : Option Addr) (c0 : Nat) (l0 : List (S55)) (r : List (S55)) (w : World) (hr0 : Kd.C k55 w A0 l0.length l0) (hc0 : l0.length ≤ c0) (h : slices_Clone_Hole.f l0 = some r) :
  Calls Tryz.prog 64 #[.slice A0 l0.length c0] w fun e w' => ∃ v0_ : Value, e = .returned (v0_) ∧ Kd.R k55 55 w' w.heap.size (fun _ => True) v0_ r ∧ Below w.heap.size w w' := by
 have hn : l0.length ≤ 5864062014805 ∧ l0 = r := by
  unfold slices_Clone_Hole.f at h
  split at h
  ·exact ⟨by assumption, Option.some.inj h⟩
  cases h
 obtain ⟨hn, rfl⟩ := hn
 clear h
 have hq : ∀ (w : World) (a : Option Addr) (n c n' c' : Nat), (binOp .eql 24 (.slice a n c) (.slice none n' c')).run Tryz.prog w = .ok (.bool a.isNone) w := fun w a n c n' c' => Lib.run_eql_slice_nil w _ _ a n c n' c' Tryz.underlying24
 have HC := Aside0.mk hr0
 have HN := Aside0.mk hn
 have HB := Aside0.mk (Below.refl w.heap.size w)
 clear hr0 hn
 rcases A0 with _ | ad
 ·have h0 : l0 = [] := by
   cases l0 with
   | nil => rfl
   | cons x xs =>
    obtain ⟨ad, h, _⟩ := HC.out.2.2 (by simp)
    cases h
  subst h0
  clear HC HN
  go_enter Tryz.func64, Tryz.ntmps64
  go_wp2
  go_ret
  exact ⟨_, rfl, Kd.R_nil _ _ _ _ _, Below.refl _ _⟩
 go_enter Tryz.func64, Tryz.ntmps64
 go_wp2_with (at_builtin; refine Kd.R_append_rows k55 (w0 := w) w.heap.size rfl _ _ 24 55 (.agg #[(.int .i64 0), (.int .i64 0), (.int .i64 0)]) 24 rfl Tryz.underlying24 (by kernel_rfl) rfl (by decide) (by omega) (.slice (some ⟨w.heap.size, 0, none⟩) 0 0) [] l0 _ _ _ (fun _ => True) (fun _ => False) rfl rfl ?aO ?aR (fun _ _ h => h) (fun _ h => h.elim) ?aF ?aB ?aS ?aL ?_)
 case aO => exact ⟨fun _ _ => trivial, [], World.ownsRow_made w #[] 0 (Nat.le_refl _) (Nat.zero_le _) (by simp), Reps.none _ _⟩
 case aR => exact Kd.C_alloc HC.out _
 case aF => exact fun _ _ => trivial
 case aB => exact below_alloc (Below.refl _ _) _
 case aS => simp
 case aL => have := HN.out; simp only [List.length_nil]; omega
 intro v1 w1 ho hb hg hat
 go_wp2
 go_ret
 exact ⟨_, rfl, ho, hb⟩

end Go.Proofs.YtcpbncljimmkfaaGreatDoor.PFnScans
