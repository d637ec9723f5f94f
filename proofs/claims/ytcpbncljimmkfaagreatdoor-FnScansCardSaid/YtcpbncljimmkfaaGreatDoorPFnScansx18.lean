-- written by a program of this session: the kit's print, with outer functions of the session's own (wip/ext)
import Derived.Test.YtcpbncljimmkfaaGreatDoorPFnScansx0
import Derived.Test.YtcpbncljimmkfaaGreatDoorPFnScansx17
namespace Go.Proofs.YtcpbncljimmkfaaGreatDoor.PFnScans
open Go.RowKit Go.Proofs.YtcpbncljimmkfaaGreatDoorW.PrintWords Go.Proofs.YtcpbncljimmkfaaGreatDoorW.PrintLast Go.Proofs.YtcpbncljimmkfaaGreatDoorW.PrintMore
attribute [local go_sem] max2_int min2_int max_two min_two max_three min_three max_four min_four   -- for this text's walks alone
set_option linter.unusedVariables false
set_option linter.unusedSimpArgs false
theorem mo18_ {p : Prop} (h : p := by repeat' first | (with_reducible first | apply ih0 | apply ih0 | apply ih1 | apply ih1 | apply impl_sameSize.mono | apply impl_sameSize.mono | apply impl_scanFaults.mono | apply impl_scanFaults.mono | exact LeO.refl _ | exact LeO.none _ | refine LeO.ite ?_ ?_ | refine LeO.bind ?_ (fun _ => ?_)) | exact LeO.none _ | refine LeO.ite ?_ ?_ | refine LeO.bind ?_ (fun _ => ?_)) : p := h

/-! ### impl_scanFaults: function 50 -/
mutual
def impl_scanFaults.l0 : Nat → List ByteArray → List ByteArray → Int → Int → Int → Option (Int)
 | 0, _, _, _, _, _ => none
 | k + 1, x0, x1, x5, x9, x10 => if x10 < x9 then (if 0 ≤ x10 then (if x10 < (x0.length : Int) then (impl_scanFaults.l1 k x0 x1 x5 x10 x9 x10 ((rdOf ByteArray.empty x0 x10).size : Int) 0) else (none)) else (none)) else (some x5)
def impl_scanFaults.l1 : Nat → List ByteArray → List ByteArray → Int → Int → Int → Int → Int → Int → Option (Int)
 | 0, _, _, _, _, _, _, _, _ => none
 | k + 1, x0, x1, x5, x6, x9, x10, x17, x18 => if x18 < x17 then (if 0 ≤ x6 then (if x6 < (x0.length : Int) then (if 0 ≤ x18 then (if x18 < ((rdOf ByteArray.empty x0 x6).size : Int) then (if x6 < (x1.length : Int) then (if x18 < ((rdOf ByteArray.empty x1 x6).size : Int) then (if (bt (rdOf ByteArray.empty x0 x6) x18) = (bt (rdOf ByteArray.empty x1 x6) x18) then (impl_scanFaults.l1 k x0 x1 x5 x6 x9 x10 x17 (wrap64 (x18 + 1))) else (if (bt (rdOf ByteArray.empty x0 x6) x18) = 63 then (impl_scanFaults.l1 k x0 x1 x5 x6 x9 x10 x17 (wrap64 (x18 + 1))) else (if (bt (rdOf ByteArray.empty x1 x6) x18) = 63 then (impl_scanFaults.l1 k x0 x1 x5 x6 x9 x10 x17 (wrap64 (x18 + 1))) else (impl_scanFaults.l1 k x0 x1 (wrap64 (x5 + 1)) x6 x9 x10 x17 (wrap64 (x18 + 1)))))) else (none)) else (none)) else (none)) else (none)) else (none)) else (none)) else (impl_scanFaults.l0 k x0 x1 x5 x9 (wrap64 (x10 + 1)))
end
def impl_scanFaults.f (k : Nat) (l0 : List ByteArray) (l1 : List ByteArray) : Option (Int) := impl_scanFaults.l0 k l0 l1 0 (l0.length : Int) 0
theorem impl_scanFaults.mono_l : ∀ k, (∀ y0 y1 y2 y3 y4, LeO (impl_scanFaults.l0 k y0 y1 y2 y3 y4) (impl_scanFaults.l0 (k + 1) y0 y1 y2 y3 y4)) ∧ (∀ y0 y1 y2 y3 y4 y5 y6 y7, LeO (impl_scanFaults.l1 k y0 y1 y2 y3 y4 y5 y6 y7) (impl_scanFaults.l1 (k + 1) y0 y1 y2 y3 y4 y5 y6 y7))
 | 0 => ⟨fun _ _ _ _ _ r h => by simp [impl_scanFaults.l0] at h, fun _ _ _ _ _ _ _ _ r h => by simp [impl_scanFaults.l1] at h⟩
 | k + 1 => by
  obtain ⟨ih0, ih1⟩ := impl_scanFaults.mono_l k
  refine ⟨?_, ?_⟩
  ·intro y0 y1 y2 y3 y4
   unfold impl_scanFaults.l0
   exact mo18_
  intro y0 y1 y2 y3 y4 y5 y6 y7
  unfold impl_scanFaults.l1
  exact mo18_
theorem impl_scanFaults.mono : ∀ a0 a1 k, LeO (impl_scanFaults.f k a0 a1) (impl_scanFaults.f (k + 1) a0 a1) := by
 intro a0 a1 k
 obtain ⟨ih0, ih1⟩ := impl_scanFaults.mono_l k
 unfold impl_scanFaults.f
 exact mo18_
set_option maxHeartbeats 8000000 in
set_option maxRecDepth 100000 in
theorem impl_scanFaults.calls (k : Nat) (A0 : Option Addr) (c0 : Nat) (l0 : List ByteArray) (A1 : Option Addr) (c1 : Nat) (l1 : List ByteArray) (r : Int) (w : World) (hr0 : Kd.C Kd.string w A0 l0.length l0) (hc0 : l0.length ≤ c0) (hr1 : Kd.C Kd.string w A1 l1.length l1) (hc1 : l1.length ≤ c1) (h : impl_scanFaults.f k l0 l1 = some r) :
  Calls Tryz.prog 50 #[.slice A0 l0.length c0, .slice A1 l1.length c1] w fun e w' => e = .returned (.int .i64 r) ∧ Drawn0 w w' := by
 have HR0 := Aside0.mk hr0
 have HC0 := Aside0.mk hc0
 clear hr0 hc0
 have HR1 := Aside0.mk hr1
 have HC1 := Aside0.mk hc1
 clear hr1 hc1
 have H : (impl_scanFaults.l0 k l0 l1 0 (l0.length : Int) 0) = some r := h
 clear h
 have H' := Aside0.mk H
 clear H
 go_enter Tryz.func50, Tryz.ntmps50
 go_wp2
 repeat (go_quiet (fail); try go_wp2)
 go_loopg [5, 10] k (fun kq v5 qu w' => ∃ (ag : Int) (aa : Int), v5 = .int .i64 ag ∧ qu = .int .i64 aa ∧ Aside0 (impl_scanFaults.l0 kq l0 l1 ag (l0.length : Int) aa = some r) ∧ Aside0 (kq ≤ k) ∧ Drawn0 w w')
 case atStart => exact ⟨(0), (0), (Z11), (Z11), H', ⟨Nat.le_refl _⟩, Z14⟩
 case round =>
  clear H'
  (try clear c1)
  obtain ⟨ag, aa, rfl, rfl, HA, HK1, ⟨m1, rfl⟩⟩ := hrel
  cases gk with
  | zero => exact absurd HA.out (by simp [impl_scanFaults.l0])
  | succ k1 =>
   have H := HA.out
   clear HA
   simp only [impl_scanFaults.l0] at H
   by_cases c3 : aa < (l0.length : Int)
   ·rw [if_pos c3] at H
    have bA : decide (aa < (l0.length : Int)) = true := decide_eq_true c3
    clear c3
    by_cases c4 : 0 ≤ aa
    case neg => rw [if_neg c4] at H; exact absurd H (by simp)
    rw [if_pos c4] at H
    have bZ : decide (0 ≤ aa) = true := decide_eq_true c4
    clear c4
    by_cases c5 : aa < (l0.length : Int)
    case neg => rw [if_neg c5] at H; exact absurd H (by simp)
    rw [if_pos c5] at H
    have ci : decide (aa < (l0.length : Int)) = true := decide_eq_true c5
    clear c5
    have H' := Aside0.mk H
    clear H
    have uK : 0 ≤ (aa : Int) := of_decide_eq_true (Z8)
    have uL : aa < (l0.length : Int) := of_decide_eq_true (Z8)
    obtain ⟨i3, e636, hx636_0⟩ := Kd.at_string HR0.out aa uK uL
    cases e636
    replace uK := eq_true uK
    replace uL := eq_true uL
    go_wp2
    repeat (go_quiet (fail); try go_wp2)
    go_loopg [5, 18] k1 (fun kq v5 v18 w' => ∃ (aA : Int) (ax : Int), v5 = .int .i64 aA ∧ v18 = .int .i64 ax ∧ Aside0 (impl_scanFaults.l1 kq l0 l1 aA aa (l0.length : Int) aa ((rdOf ByteArray.empty l0 aa).size : Int) ax = some r) ∧ Aside0 (kq ≤ k1) ∧ Drawn0 w w')
    case atStart => exact ⟨(ag), (0), (Z11), (Z11), H', ⟨Nat.le_refl _⟩, Z14⟩
    case round =>
     clear H'
     (try clear c3); (try clear bA); (try clear c4); (try clear bZ); (try clear c5); (try clear ci); (try clear hx636_0); (try clear uK); (try clear uL)
     obtain ⟨aA, ax, rfl, rfl, HA, HK2, ⟨m2, rfl⟩⟩ := hrel
     cases gk with
     | zero => exact absurd HA.out (by simp [impl_scanFaults.l1])
     | succ k2 =>
      have H := HA.out
      clear HA
      simp only [impl_scanFaults.l1] at H
      by_cases c6 : ax < ((rdOf ByteArray.empty l0 aa).size : Int)
      ·rw [if_pos c6] at H
       have ck : decide (ax < ((rdOf ByteArray.empty l0 aa).size : Int)) = true := decide_eq_true c6
       clear c6
       by_cases c7 : 0 ≤ aa
       case neg => rw [if_neg c7] at H; exact absurd H (by simp)
       rw [if_pos c7] at H
       have cd : decide (0 ≤ aa) = true := decide_eq_true c7
       clear c7
       by_cases c8 : aa < (l0.length : Int)
       case neg => rw [if_neg c8] at H; exact absurd H (by simp)
       rw [if_pos c8] at H
       have ep : decide (aa < (l0.length : Int)) = true := decide_eq_true c8
       clear c8
       by_cases c9 : 0 ≤ ax
       case neg => rw [if_neg c9] at H; exact absurd H (by simp)
       rw [if_pos c9] at H
       have gM : decide (0 ≤ ax) = true := decide_eq_true c9
       clear c9
       by_cases c10 : ax < ((rdOf ByteArray.empty l0 aa).size : Int)
       case neg => rw [if_neg c10] at H; exact absurd H (by simp)
       rw [if_pos c10] at H
       have b7 : decide (ax < ((rdOf ByteArray.empty l0 aa).size : Int)) = true := decide_eq_true c10
       clear c10
       by_cases c12 : aa < (l1.length : Int)
       case neg => rw [if_neg c12] at H; exact absurd H (by simp)
       rw [if_pos c12] at H
       have dp : decide (aa < (l1.length : Int)) = true := decide_eq_true c12
       clear c12
       by_cases c13 : ax < ((rdOf ByteArray.empty l1 aa).size : Int)
       case neg => rw [if_neg c13] at H; exact absurd H (by simp)
       rw [if_pos c13] at H
       have cq : decide (ax < ((rdOf ByteArray.empty l1 aa).size : Int)) = true := decide_eq_true c13
       clear c13
       by_cases c15 : (bt (rdOf ByteArray.empty l0 aa) ax) = (bt (rdOf ByteArray.empty l1 aa) ax)
       ·rw [if_pos c15] at H
        have fQ : ((bt (rdOf ByteArray.empty l0 aa) ax) == (bt (rdOf ByteArray.empty l1 aa) ax)) = true := beq_iff_eq.mpr c15
        have iK : ((bt (rdOf ByteArray.empty l0 aa) ax) != (bt (rdOf ByteArray.empty l1 aa) ax)) = false := bne_eq_false_iff_eq.mpr c15
        clear c15
        have H' := Aside0.mk H
        clear H
        have fY : 0 ≤ (aa : Int) := of_decide_eq_true (Z8)
        have fZ : aa < (l0.length : Int) := of_decide_eq_true (Z8)
        obtain ⟨i4, e637, lD⟩ := Kd.at_string HR0.out aa fY fZ
        obtain rfl : i3 = i4 := (by injection e637)
        replace fY := eq_true fY
        replace fZ := eq_true fZ
        have jP : 0 ≤ (ax : Int) := of_decide_eq_true (Z8)
        have jQ : ax < ((rdOf ByteArray.empty l0 aa).size : Int) := of_decide_eq_true (Z8)
        have hx11 := bt_at (rdOf ByteArray.empty l0 aa) ax
        replace jP := eq_true jP
        replace jQ := eq_true jQ
        have f3 : 0 ≤ (aa : Int) := of_decide_eq_true (Z8)
        have f4 : aa < (l1.length : Int) := of_decide_eq_true (Z8)
        obtain ⟨m0, e638, lE⟩ := Kd.at_string HR1.out aa f3 f4
        cases e638
        replace f3 := eq_true f3
        replace f4 := eq_true f4
        have sH : 0 ≤ (ax : Int) := of_decide_eq_true (Z8)
        have sI : ax < ((rdOf ByteArray.empty l1 aa).size : Int) := of_decide_eq_true (Z8)
        have hx14 := bt_at (rdOf ByteArray.empty l1 aa) ax
        replace sH := eq_true sH
        replace sI := eq_true sI
        go_wp2
        repeat (go_quiet (fail); try go_wp2)
        go_roundg k2
        case measure => have := HK1.out; have := HK2.out; omega
        case rel => exact ⟨(aA), (wrap64 (ax + 1)), (Z11), (Z11), H', ⟨Z50⟩, Z14⟩
       rw [if_neg c15] at H
       have fQ : ((bt (rdOf ByteArray.empty l0 aa) ax) == (bt (rdOf ByteArray.empty l1 aa) ax)) = false := beq_eq_false_iff_ne.mpr c15
       have iK : ((bt (rdOf ByteArray.empty l0 aa) ax) != (bt (rdOf ByteArray.empty l1 aa) ax)) = true := bne_iff_ne.mpr c15
       by_cases c17 : (bt (rdOf ByteArray.empty l0 aa) ax) = 63
       ·rw [if_pos c17] at H
        have gf : ((bt (rdOf ByteArray.empty l0 aa) ax) == 63) = true := beq_iff_eq.mpr c17
        have pN : ((bt (rdOf ByteArray.empty l0 aa) ax) != 63) = false := bne_eq_false_iff_eq.mpr c17
        clear c17
        have H' := Aside0.mk H
        clear H
        have fY : 0 ≤ (aa : Int) := of_decide_eq_true (Z8)
        have fZ : aa < (l0.length : Int) := of_decide_eq_true (Z8)
        obtain ⟨i4, e637, lD⟩ := Kd.at_string HR0.out aa fY fZ
        obtain rfl : i3 = i4 := (by injection e637)
        replace fY := eq_true fY
        replace fZ := eq_true fZ
        have jP : 0 ≤ (ax : Int) := of_decide_eq_true (Z8)
        have jQ : ax < ((rdOf ByteArray.empty l0 aa).size : Int) := of_decide_eq_true (Z8)
        have hx11 := bt_at (rdOf ByteArray.empty l0 aa) ax
        replace jP := eq_true jP
        replace jQ := eq_true jQ
        have f3 : 0 ≤ (aa : Int) := of_decide_eq_true (Z8)
        have f4 : aa < (l1.length : Int) := of_decide_eq_true (Z8)
        obtain ⟨m0, e638, lE⟩ := Kd.at_string HR1.out aa f3 f4
        cases e638
        replace f3 := eq_true f3
        replace f4 := eq_true f4
        have sH : 0 ≤ (ax : Int) := of_decide_eq_true (Z8)
        have sI : ax < ((rdOf ByteArray.empty l1 aa).size : Int) := of_decide_eq_true (Z8)
        have hx14 := bt_at (rdOf ByteArray.empty l1 aa) ax
        replace sH := eq_true sH
        replace sI := eq_true sI
        have i5 : 0 ≤ (aa : Int) := of_decide_eq_true (Z8)
        have i6 : aa < (l0.length : Int) := of_decide_eq_true (Z8)
        obtain ⟨m4, e639, qb⟩ := Kd.at_string HR0.out aa i5 i6
        obtain rfl : i3 = m4 := (by injection e639)
        replace i5 := eq_true i5
        replace i6 := eq_true i6
        have rv : 0 ≤ (ax : Int) := of_decide_eq_true (Z8)
        have rx : ax < ((rdOf ByteArray.empty l0 aa).size : Int) := of_decide_eq_true (Z8)
        have hx16 := bt_at (rdOf ByteArray.empty l0 aa) ax
        replace rv := eq_true rv
        replace rx := eq_true rx
        go_wp2
        repeat (go_quiet (fail); try go_wp2)
        go_roundg k2
        case measure => have := HK1.out; have := HK2.out; omega
        case rel => exact ⟨(aA), (wrap64 (ax + 1)), (Z11), (Z11), H', ⟨Z50⟩, Z14⟩
       rw [if_neg c17] at H
       have gf : ((bt (rdOf ByteArray.empty l0 aa) ax) == 63) = false := beq_eq_false_iff_ne.mpr c17
       have pN : ((bt (rdOf ByteArray.empty l0 aa) ax) != 63) = true := bne_iff_ne.mpr c17
       by_cases c19 : (bt (rdOf ByteArray.empty l1 aa) ax) = 63
       ·rw [if_pos c19] at H
        have iN : ((bt (rdOf ByteArray.empty l1 aa) ax) == 63) = true := beq_iff_eq.mpr c19
        have sr : ((bt (rdOf ByteArray.empty l1 aa) ax) != 63) = false := bne_eq_false_iff_eq.mpr c19
        clear c19
        have H' := Aside0.mk H
        clear H
        have fY : 0 ≤ (aa : Int) := of_decide_eq_true (Z8)
        have fZ : aa < (l0.length : Int) := of_decide_eq_true (Z8)
        obtain ⟨i4, e637, lD⟩ := Kd.at_string HR0.out aa fY fZ
        obtain rfl : i3 = i4 := (by injection e637)
        replace fY := eq_true fY
        replace fZ := eq_true fZ
        have jP : 0 ≤ (ax : Int) := of_decide_eq_true (Z8)
        have jQ : ax < ((rdOf ByteArray.empty l0 aa).size : Int) := of_decide_eq_true (Z8)
        have hx11 := bt_at (rdOf ByteArray.empty l0 aa) ax
        replace jP := eq_true jP
        replace jQ := eq_true jQ
        have f3 : 0 ≤ (aa : Int) := of_decide_eq_true (Z8)
        have f4 : aa < (l1.length : Int) := of_decide_eq_true (Z8)
        obtain ⟨m0, e638, lE⟩ := Kd.at_string HR1.out aa f3 f4
        cases e638
        replace f3 := eq_true f3
        replace f4 := eq_true f4
        have sH : 0 ≤ (ax : Int) := of_decide_eq_true (Z8)
        have sI : ax < ((rdOf ByteArray.empty l1 aa).size : Int) := of_decide_eq_true (Z8)
        have hx14 := bt_at (rdOf ByteArray.empty l1 aa) ax
        replace sH := eq_true sH
        replace sI := eq_true sI
        have i5 : 0 ≤ (aa : Int) := of_decide_eq_true (Z8)
        have i6 : aa < (l0.length : Int) := of_decide_eq_true (Z8)
        obtain ⟨m4, e639, qb⟩ := Kd.at_string HR0.out aa i5 i6
        obtain rfl : i3 = m4 := (by injection e639)
        replace i5 := eq_true i5
        replace i6 := eq_true i6
        have rv : 0 ≤ (ax : Int) := of_decide_eq_true (Z8)
        have rx : ax < ((rdOf ByteArray.empty l0 aa).size : Int) := of_decide_eq_true (Z8)
        have hx16 := bt_at (rdOf ByteArray.empty l0 aa) ax
        replace rv := eq_true rv
        replace rx := eq_true rx
        have pf : 0 ≤ (aa : Int) := of_decide_eq_true (Z8)
        have pg : aa < (l1.length : Int) := of_decide_eq_true (Z8)
        obtain ⟨sJ, e640, hx640_0⟩ := Kd.at_string HR1.out aa pf pg
        obtain rfl : m0 = sJ := (by injection e640)
        replace pf := eq_true pf
        replace pg := eq_true pg
        have Bh : 0 ≤ (ax : Int) := of_decide_eq_true (Z8)
        have Bi : ax < ((rdOf ByteArray.empty l1 aa).size : Int) := of_decide_eq_true (Z8)
        have hx18 := bt_at (rdOf ByteArray.empty l1 aa) ax
        replace Bh := eq_true Bh
        replace Bi := eq_true Bi
        go_wp2
        repeat (go_quiet (fail); try go_wp2)
        go_roundg k2
        case measure => have := HK1.out; have := HK2.out; omega
        case rel => exact ⟨(aA), (wrap64 (ax + 1)), (Z11), (Z11), H', ⟨Z50⟩, Z14⟩
       rw [if_neg c19] at H
       have iN : ((bt (rdOf ByteArray.empty l1 aa) ax) == 63) = false := beq_eq_false_iff_ne.mpr c19
       have sr : ((bt (rdOf ByteArray.empty l1 aa) ax) != 63) = true := bne_iff_ne.mpr c19
       have H' := Aside0.mk H
       clear H
       have fY : 0 ≤ (aa : Int) := of_decide_eq_true (Z8)
       have fZ : aa < (l0.length : Int) := of_decide_eq_true (Z8)
       obtain ⟨i4, e637, lD⟩ := Kd.at_string HR0.out aa fY fZ
       obtain rfl : i3 = i4 := (by injection e637)
       replace fY := eq_true fY
       replace fZ := eq_true fZ
       have jP : 0 ≤ (ax : Int) := of_decide_eq_true (Z8)
       have jQ : ax < ((rdOf ByteArray.empty l0 aa).size : Int) := of_decide_eq_true (Z8)
       have hx11 := bt_at (rdOf ByteArray.empty l0 aa) ax
       replace jP := eq_true jP
       replace jQ := eq_true jQ
       have f3 : 0 ≤ (aa : Int) := of_decide_eq_true (Z8)
       have f4 : aa < (l1.length : Int) := of_decide_eq_true (Z8)
       obtain ⟨m0, e638, lE⟩ := Kd.at_string HR1.out aa f3 f4
       cases e638
       replace f3 := eq_true f3
       replace f4 := eq_true f4
       have sH : 0 ≤ (ax : Int) := of_decide_eq_true (Z8)
       have sI : ax < ((rdOf ByteArray.empty l1 aa).size : Int) := of_decide_eq_true (Z8)
       have hx14 := bt_at (rdOf ByteArray.empty l1 aa) ax
       replace sH := eq_true sH
       replace sI := eq_true sI
       have i5 : 0 ≤ (aa : Int) := of_decide_eq_true (Z8)
       have i6 : aa < (l0.length : Int) := of_decide_eq_true (Z8)
       obtain ⟨m4, e639, qb⟩ := Kd.at_string HR0.out aa i5 i6
       obtain rfl : i3 = m4 := (by injection e639)
       replace i5 := eq_true i5
       replace i6 := eq_true i6
       have rv : 0 ≤ (ax : Int) := of_decide_eq_true (Z8)
       have rx : ax < ((rdOf ByteArray.empty l0 aa).size : Int) := of_decide_eq_true (Z8)
       have hx16 := bt_at (rdOf ByteArray.empty l0 aa) ax
       replace rv := eq_true rv
       replace rx := eq_true rx
       have pf : 0 ≤ (aa : Int) := of_decide_eq_true (Z8)
       have pg : aa < (l1.length : Int) := of_decide_eq_true (Z8)
       obtain ⟨sJ, e640, hx640_0⟩ := Kd.at_string HR1.out aa pf pg
       obtain rfl : m0 = sJ := (by injection e640)
       replace pf := eq_true pf
       replace pg := eq_true pg
       have Bh : 0 ≤ (ax : Int) := of_decide_eq_true (Z8)
       have Bi : ax < ((rdOf ByteArray.empty l1 aa).size : Int) := of_decide_eq_true (Z8)
       have hx18 := bt_at (rdOf ByteArray.empty l1 aa) ax
       replace Bh := eq_true Bh
       replace Bi := eq_true Bi
       go_wp2
       repeat (go_quiet (fail); try go_wp2)
       go_roundg k2
       case measure => have := HK1.out; have := HK2.out; omega
       case rel => exact ⟨(wrap64 (aA + 1)), (wrap64 (ax + 1)), (Z11), (Z11), H', ⟨Z50⟩, Z14⟩
      rw [if_neg c6] at H
      have ck : decide (ax < ((rdOf ByteArray.empty l0 aa).size : Int)) = false := decide_eq_false c6
      clear c6
      have H' := Aside0.mk H
      clear H
      go_wp2
      repeat (go_quiet (fail); try go_wp2)
      go_roundg k2
      case measure => have := HK1.out; have := HK2.out; omega
      case rel => exact ⟨(aA), (wrap64 (aa + 1)), (Z11), (Z11), H', ⟨Z50⟩, Z14⟩
   rw [if_neg c3] at H
   have bA : decide (aa < (l0.length : Int)) = false := decide_eq_false c3
   clear c3
   obtain rfl := Option.some.inj H
   go_wp2
   repeat (go_quiet (fail); try go_wp2)
   go_ret
   exact ⟨Z11, Z14⟩

/-! ### impl_AgreeScans: function 25 -/
def impl_AgreeScans.f (k : Nat) (l0 : List ByteArray) (l1 : List ByteArray) : Option (Bool × Bool) := (impl_sameSize.f k l0 l1).bind fun sK => (if sK = true then ((impl_scanFaults.f k l0 l1).bind fun qP => (some ((qP == 0), true))) else (some (false, false)))
theorem impl_AgreeScans.mono : ∀ a0 a1 k, LeO (impl_AgreeScans.f k a0 a1) (impl_AgreeScans.f (k + 1) a0 a1) := by
 intro a0 a1 k
 unfold impl_AgreeScans.f
 exact mo18_
set_option maxHeartbeats 8000000 in
set_option maxRecDepth 100000 in
theorem impl_AgreeScans.calls (k : Nat) (A0 : Option Addr) (c0 : Nat) (l0 : List ByteArray) (A1 : Option Addr) (c1 : Nat) (l1 : List ByteArray) (r1 : Bool) (r2 : Bool) (w : World) (hr0 : Kd.C Kd.string w A0 l0.length l0) (hc0 : l0.length ≤ c0) (hr1 : Kd.C Kd.string w A1 l1.length l1) (hc1 : l1.length ≤ c1) (h : impl_AgreeScans.f k l0 l1 = some (r1, r2)) :
  Calls Tryz.prog 25 #[.slice A0 l0.length c0, .slice A1 l1.length c1] w fun e w' => e = .returned (.tuple #[.bool r1, .bool r2]) ∧ Drawn0 w w' := by
 have HR0 := Aside0.mk hr0
 have HC0 := Aside0.mk hc0
 clear hr0 hc0
 have HR1 := Aside0.mk hr1
 have HC1 := Aside0.mk hc1
 clear hr1 hc1
 have H : ((impl_sameSize.f k l0 l1).bind fun sK => (if sK = true then ((impl_scanFaults.f k l0 l1).bind fun qP => (some ((qP == 0), true))) else (some (false, false)))) = some (r1, r2) := h
 clear h
 obtain ⟨sK, A3, H⟩ := bd_ H
 (try dsimp only at H)
 by_cases c4 : sK = true
 ·subst c4
  rw [if_pos rfl] at H
  obtain ⟨qP, A5, H⟩ := bd_ H
  replace H : (some ((qP == 0), true)) = some (r1, r2) := H
  simp only [Option.some.injEq, Prod.mk.injEq] at H
  obtain ⟨rfl, rfl⟩ := H
  go_enter Tryz.func25, Tryz.ntmps25
  go_wp2_with (first | ((with_reducible refine gate_callee (f := 49) rfl ?_); refine gl_ 8 Tryz.func49 #[.slice A0 l0.length c0, .slice A1 l1.length c1] ?_; (with_reducible refine (impl_sameSize.calls k _ _ l0 _ _ l1 true _ ?_ ?_ ?_ ?_ A3.out).mono ?_); exact (Z10 HR0); exact HC0.out; exact (Z10 HR1); exact HC1.out; rintro e w' ⟨rfl, ⟨nd, rfl⟩⟩; refine ⟨_, rfl, ?_⟩) | ((with_reducible refine gate_callee (f := 50) rfl ?_); refine gl_ 12 Tryz.func50 #[.slice A0 l0.length c0, .slice A1 l1.length c1] ?_; (with_reducible refine (impl_scanFaults.calls k _ _ l0 _ _ l1 qP _ ?_ ?_ ?_ ?_ A5.out).mono ?_); exact (Z10 HR0); exact HC0.out; exact (Z10 HR1); exact HC1.out; rintro e w' ⟨rfl, ⟨nd, rfl⟩⟩; refine ⟨_, rfl, ?_⟩))
  go_ret2
  exact ⟨Z11, Z14⟩
 replace c4 := Bool.eq_false_iff.mpr c4
 subst c4
 rw [if_neg (show ¬ (false = true) by decide)] at H
 simp only [Option.some.injEq, Prod.mk.injEq] at H
 obtain ⟨rfl, rfl⟩ := H
 go_enter Tryz.func25, Tryz.ntmps25
 go_wp2_with ((with_reducible refine gate_callee (f := 49) rfl ?_); refine gl_ 8 Tryz.func49 #[.slice A0 l0.length c0, .slice A1 l1.length c1] ?_; (with_reducible refine (impl_sameSize.calls k _ _ l0 _ _ l1 false _ ?_ ?_ ?_ ?_ A3.out).mono ?_); exact (Z10 HR0); exact HC0.out; exact (Z10 HR1); exact HC1.out; rintro e w' ⟨rfl, ⟨nd, rfl⟩⟩; refine ⟨_, rfl, ?_⟩)
 go_ret2
 exact ⟨Z11, Z14⟩

end Go.Proofs.YtcpbncljimmkfaaGreatDoor.PFnScans
