-- written by a program of this session: the kit's print, with outer functions of the session's own (wip/ext)
import Derived.Test.YtmnnmddfmmaohaaPFnStainsx0
import Derived.Test.YtmnnmddfmmaohaaPFnStainsx14
namespace Go.Proofs.Ytmnnmddfmmaohaa.PFnStains
open Go.RowKit Go.Proofs.YtmnnmddfmmaohaaW.PrintWords Go.Proofs.YtmnnmddfmmaohaaW.PrintLast Go.Proofs.YtmnnmddfmmaohaaW.PrintMore
attribute [local go_sem] max2_int min2_int max_two min_two max_three min_three max_four min_four   -- for this text's walks alone
set_option linter.unusedVariables false
set_option linter.unusedSimpArgs false
theorem mo15_ {p : Prop} (h : p := by repeat' first | (with_reducible first | apply ih0 | apply ih0 | apply ih1 | apply ih1 | apply ih2 | apply ih2 | apply spec_DrawAgreeScans.mono | apply spec_DrawAgreeScans.mono | apply spec_scApart.mono | apply spec_scApart.mono | apply spec_scTwo.mono | apply spec_scTwo.mono | exact LeO.refl _ | exact LeO.none _ | refine LeO.ite ?_ ?_ | refine LeO.bind ?_ (fun _ => ?_)) | exact LeO.none _ | refine LeO.ite ?_ ?_ | refine LeO.bind ?_ (fun _ => ?_)) : p := h

/-! ### spec_scApart: function 60 -/
mutual
def spec_scApart.l0 : Nat → List ByteArray → Int → List ByteArray → Int → Int → Option (Int)
 | 0, _, _, _, _, _ => none
 | k + 1, x1, x5, x10, x11, x12 => if x12 < x11 then (if 0 ≤ x12 then (if x12 < (x10.length : Int) then (if x12 < (x1.length : Int) then (spec_scApart.l1 k x1 x5 (rdOf ByteArray.empty x10 x12) (rdOf ByteArray.empty x1 x12) 0 x10 x11 x12) else (none)) else (none)) else (none)) else (some x5)
def spec_scApart.l1 : Nat → List ByteArray → Int → ByteArray → ByteArray → Int → List ByteArray → Int → Int → Option (Int)
 | 0, _, _, _, _, _, _, _, _ => none
 | k + 1, x1, x5, x7, x8, x9, x10, x11, x12 => if x9 < (x7.size : Int) then (if 0 ≤ x9 then (if x9 < (x8.size : Int) then (if (bt x7 x9) = (bt x8 x9) then (spec_scApart.l1 k x1 x5 x7 x8 (wrap64 (x9 + 1)) x10 x11 x12) else (if (bt x7 x9) = 63 then (spec_scApart.l1 k x1 x5 x7 x8 (wrap64 (x9 + 1)) x10 x11 x12) else (if (bt x8 x9) = 63 then (spec_scApart.l1 k x1 x5 x7 x8 (wrap64 (x9 + 1)) x10 x11 x12) else (spec_scApart.l1 k x1 (wrap64 (x5 + 1)) x7 x8 (wrap64 (x9 + 1)) x10 x11 x12)))) else (none)) else (none)) else (spec_scApart.l0 k x1 x5 x10 x11 (wrap64 (x12 + 1)))
end
def spec_scApart.f (k : Nat) (l0 : List ByteArray) (l1 : List ByteArray) : Option (Int) := spec_scApart.l0 k l1 0 l0 (l0.length : Int) 0
theorem spec_scApart.mono_l : ∀ k, (∀ y0 y1 y2 y3 y4, LeO (spec_scApart.l0 k y0 y1 y2 y3 y4) (spec_scApart.l0 (k + 1) y0 y1 y2 y3 y4)) ∧ (∀ y0 y1 y2 y3 y4 y5 y6 y7, LeO (spec_scApart.l1 k y0 y1 y2 y3 y4 y5 y6 y7) (spec_scApart.l1 (k + 1) y0 y1 y2 y3 y4 y5 y6 y7))
 | 0 => ⟨fun _ _ _ _ _ r h => by simp [spec_scApart.l0] at h, fun _ _ _ _ _ _ _ _ r h => by simp [spec_scApart.l1] at h⟩
 | k + 1 => by
  obtain ⟨ih0, ih1⟩ := spec_scApart.mono_l k
  refine ⟨?_, ?_⟩
  ·intro y0 y1 y2 y3 y4
   unfold spec_scApart.l0
   exact mo15_
  intro y0 y1 y2 y3 y4 y5 y6 y7
  unfold spec_scApart.l1
  exact mo15_
theorem spec_scApart.mono : ∀ a0 a1 k, LeO (spec_scApart.f k a0 a1) (spec_scApart.f (k + 1) a0 a1) := by
 intro a0 a1 k
 obtain ⟨ih0, ih1⟩ := spec_scApart.mono_l k
 unfold spec_scApart.f
 exact mo15_
set_option maxHeartbeats 8000000 in
set_option maxRecDepth 100000 in
theorem spec_scApart.calls (k : Nat) (A0 : Option Addr) (c0 : Nat) (l0 : List ByteArray) (A1 : Option Addr) (c1 : Nat) (l1 : List ByteArray) (r : Int) (w : World) (hr0 : Kd.C Kd.string w A0 l0.length l0) (hc0 : l0.length ≤ c0) (hr1 : Kd.C Kd.string w A1 l1.length l1) (hc1 : l1.length ≤ c1) (h : spec_scApart.f k l0 l1 = some r) :
  Calls Try.prog 60 #[.slice A0 l0.length c0, .slice A1 l1.length c1] w fun e w' => e = .returned (.int .i64 r) ∧ Drawn0 w w' := by
 have HR0 := Aside0.mk hr0
 have HC0 := Aside0.mk hc0
 clear hr0 hc0
 have HR1 := Aside0.mk hr1
 have HC1 := Aside0.mk hc1
 clear hr1 hc1
 have H : (spec_scApart.l0 k l1 0 l0 (l0.length : Int) 0) = some r := h
 clear h
 have H' := Aside0.mk H
 clear H
 go_enter Try.func60, Try.ntmps60
 go_wp2
 repeat (go_quiet (fail); try go_wp2)
 go_loopg [5, 12] k (fun kq v5 v12 w' => ∃ (x5_1 : Int) (x12_1 : Int), v5 = .int .i64 x5_1 ∧ v12 = .int .i64 x12_1 ∧ Aside0 (spec_scApart.l0 kq l1 x5_1 l0 (l0.length : Int) x12_1 = some r) ∧ Aside0 (kq ≤ k) ∧ Drawn0 w w')
 case atStart => exact ⟨(0), (0), (Z10), (Z10), H', ⟨Nat.le_refl _⟩, Z17⟩
 case round =>
  clear H'
  (try clear c1); (try clear p2)
  obtain ⟨x5_1, x12_1, rfl, rfl, HA, HK1, ⟨m1, rfl⟩⟩ := hrel
  cases gk with
  | zero => exact absurd HA.out (by simp [spec_scApart.l0])
  | succ k1 =>
   have H := HA.out
   clear HA
   simp only [spec_scApart.l0] at H
   by_cases c3 : x12_1 < (l0.length : Int)
   ·rw [if_pos c3] at H
    have c3b0 : decide (x12_1 < (l0.length : Int)) = true := decide_eq_true c3
    clear c3
    by_cases c4 : 0 ≤ x12_1
    ·rw [if_pos c4] at H
     have c4b0 : decide (0 ≤ x12_1) = true := decide_eq_true c4
     clear c4
     by_cases c5 : x12_1 < (l0.length : Int)
     ·rw [if_pos c5] at H
      have c5b0 : decide (x12_1 < (l0.length : Int)) = true := decide_eq_true c5
      clear c5
      by_cases c6 : x12_1 < (l1.length : Int)
      ·rw [if_pos c6] at H
       have c6b0 : decide (x12_1 < (l1.length : Int)) = true := decide_eq_true c6
       clear c6
       have H' := Aside0.mk H
       clear H
       have p575 : 0 ≤ (x12_1 : Int) := of_decide_eq_true (Z8)
       have q575 : x12_1 < (l0.length : Int) := of_decide_eq_true (Z8)
       obtain ⟨ad575, e575, hx575_0⟩ := Kd.at_string HR0.out x12_1 p575 q575
       cases e575
       replace p575 := eq_true p575
       replace q575 := eq_true q575
       have p576 : 0 ≤ (x12_1 : Int) := of_decide_eq_true (Z8)
       have q576 : x12_1 < (l1.length : Int) := of_decide_eq_true (Z8)
       obtain ⟨ad576, e576, hx576_0⟩ := Kd.at_string HR1.out x12_1 p576 q576
       cases e576
       replace p576 := eq_true p576
       replace q576 := eq_true q576
       go_wp2
       repeat (go_quiet (fail); try go_wp2)
       go_loopg [5, 9] k1 (fun kq v5 v9 w' => ∃ (x5_2 : Int) (x9_2 : Int), v5 = .int .i64 x5_2 ∧ v9 = .int .i64 x9_2 ∧ Aside0 (spec_scApart.l1 kq l1 x5_2 (rdOf ByteArray.empty l0 x12_1) (rdOf ByteArray.empty l1 x12_1) x9_2 l0 (l0.length : Int) x12_1 = some r) ∧ Aside0 (kq ≤ k1) ∧ Drawn0 w w')
       case atStart => exact ⟨(x5_1), (0), (Z10), (Z10), H', ⟨Nat.le_refl _⟩, Z17⟩
       case round =>
        clear H'
        (try clear c3); (try clear c3b0); (try clear c4); (try clear c4b0); (try clear c5); (try clear c5b0); (try clear p5); (try clear q5); (try clear hx5); (try clear c6); (try clear c6b0); (try clear hx575_0); (try clear hx576_0); (try clear p575); (try clear p576); (try clear q575); (try clear q576)
        obtain ⟨x5_2, x9_2, rfl, rfl, HA, HK2, ⟨m2, rfl⟩⟩ := hrel
        cases gk with
        | zero => exact absurd HA.out (by simp [spec_scApart.l1])
        | succ k2 =>
         have H := HA.out
         clear HA
         simp only [spec_scApart.l1] at H
         by_cases c7 : x9_2 < ((rdOf ByteArray.empty l0 x12_1).size : Int)
         ·rw [if_pos c7] at H
          have c7b0 : decide (x9_2 < ((rdOf ByteArray.empty l0 x12_1).size : Int)) = true := decide_eq_true c7
          clear c7
          by_cases c8 : 0 ≤ x9_2
          ·rw [if_pos c8] at H
           have c8b0 : decide (0 ≤ x9_2) = true := decide_eq_true c8
           clear c8
           by_cases c10 : x9_2 < ((rdOf ByteArray.empty l1 x12_1).size : Int)
           ·rw [if_pos c10] at H
            have c10b0 : decide (x9_2 < ((rdOf ByteArray.empty l1 x12_1).size : Int)) = true := decide_eq_true c10
            clear c10
            by_cases c12 : (bt (rdOf ByteArray.empty l0 x12_1) x9_2) = (bt (rdOf ByteArray.empty l1 x12_1) x9_2)
            ·rw [if_pos c12] at H
             have c12b0 : ((bt (rdOf ByteArray.empty l0 x12_1) x9_2) == (bt (rdOf ByteArray.empty l1 x12_1) x9_2)) = true := beq_iff_eq.mpr c12
             have c12b1 : ((bt (rdOf ByteArray.empty l0 x12_1) x9_2) != (bt (rdOf ByteArray.empty l1 x12_1) x9_2)) = false := bne_eq_false_iff_eq.mpr c12
             clear c12
             have H' := Aside0.mk H
             clear H
             have p9 : 0 ≤ (x9_2 : Int) := of_decide_eq_true (Z8)
             have q9 : x9_2 < ((rdOf ByteArray.empty l0 x12_1).size : Int) := of_decide_eq_true (Z8)
             have hx9 := bt_at (rdOf ByteArray.empty l0 x12_1) x9_2
             replace p9 := eq_true p9
             replace q9 := eq_true q9
             have p11 : 0 ≤ (x9_2 : Int) := of_decide_eq_true (Z8)
             have q11 : x9_2 < ((rdOf ByteArray.empty l1 x12_1).size : Int) := of_decide_eq_true (Z8)
             have hx11 := bt_at (rdOf ByteArray.empty l1 x12_1) x9_2
             replace p11 := eq_true p11
             replace q11 := eq_true q11
             go_wp2
             repeat (go_quiet (fail); try go_wp2)
             go_roundg k2
             case measure => have := HK1.out; have := HK2.out; omega
             case rel => exact ⟨(x5_2), (wrap64 (x9_2 + 1)), (Z10), (Z10), H', ⟨Z47⟩, Z17⟩
            rw [if_neg c12] at H
            have c12b0 : ((bt (rdOf ByteArray.empty l0 x12_1) x9_2) == (bt (rdOf ByteArray.empty l1 x12_1) x9_2)) = false := beq_eq_false_iff_ne.mpr c12
            have c12b1 : ((bt (rdOf ByteArray.empty l0 x12_1) x9_2) != (bt (rdOf ByteArray.empty l1 x12_1) x9_2)) = true := bne_iff_ne.mpr c12
            by_cases c14 : (bt (rdOf ByteArray.empty l0 x12_1) x9_2) = 63
            ·rw [if_pos c14] at H
             have c14b0 : ((bt (rdOf ByteArray.empty l0 x12_1) x9_2) == 63) = true := beq_iff_eq.mpr c14
             have c14b1 : ((bt (rdOf ByteArray.empty l0 x12_1) x9_2) != 63) = false := bne_eq_false_iff_eq.mpr c14
             clear c14
             have H' := Aside0.mk H
             clear H
             have p9 : 0 ≤ (x9_2 : Int) := of_decide_eq_true (Z8)
             have q9 : x9_2 < ((rdOf ByteArray.empty l0 x12_1).size : Int) := of_decide_eq_true (Z8)
             have hx9 := bt_at (rdOf ByteArray.empty l0 x12_1) x9_2
             replace p9 := eq_true p9
             replace q9 := eq_true q9
             have p11 : 0 ≤ (x9_2 : Int) := of_decide_eq_true (Z8)
             have q11 : x9_2 < ((rdOf ByteArray.empty l1 x12_1).size : Int) := of_decide_eq_true (Z8)
             have hx11 := bt_at (rdOf ByteArray.empty l1 x12_1) x9_2
             replace p11 := eq_true p11
             replace q11 := eq_true q11
             have p13 : 0 ≤ (x9_2 : Int) := of_decide_eq_true (Z8)
             have q13 : x9_2 < ((rdOf ByteArray.empty l0 x12_1).size : Int) := of_decide_eq_true (Z8)
             have hx13 := bt_at (rdOf ByteArray.empty l0 x12_1) x9_2
             replace p13 := eq_true p13
             replace q13 := eq_true q13
             go_wp2
             repeat (go_quiet (fail); try go_wp2)
             go_roundg k2
             case measure => have := HK1.out; have := HK2.out; omega
             case rel => exact ⟨(x5_2), (wrap64 (x9_2 + 1)), (Z10), (Z10), H', ⟨Z47⟩, Z17⟩
            rw [if_neg c14] at H
            have c14b0 : ((bt (rdOf ByteArray.empty l0 x12_1) x9_2) == 63) = false := beq_eq_false_iff_ne.mpr c14
            have c14b1 : ((bt (rdOf ByteArray.empty l0 x12_1) x9_2) != 63) = true := bne_iff_ne.mpr c14
            by_cases c16 : (bt (rdOf ByteArray.empty l1 x12_1) x9_2) = 63
            ·rw [if_pos c16] at H
             have c16b0 : ((bt (rdOf ByteArray.empty l1 x12_1) x9_2) == 63) = true := beq_iff_eq.mpr c16
             have c16b1 : ((bt (rdOf ByteArray.empty l1 x12_1) x9_2) != 63) = false := bne_eq_false_iff_eq.mpr c16
             clear c16
             have H' := Aside0.mk H
             clear H
             have p9 : 0 ≤ (x9_2 : Int) := of_decide_eq_true (Z8)
             have q9 : x9_2 < ((rdOf ByteArray.empty l0 x12_1).size : Int) := of_decide_eq_true (Z8)
             have hx9 := bt_at (rdOf ByteArray.empty l0 x12_1) x9_2
             replace p9 := eq_true p9
             replace q9 := eq_true q9
             have p11 : 0 ≤ (x9_2 : Int) := of_decide_eq_true (Z8)
             have q11 : x9_2 < ((rdOf ByteArray.empty l1 x12_1).size : Int) := of_decide_eq_true (Z8)
             have hx11 := bt_at (rdOf ByteArray.empty l1 x12_1) x9_2
             replace p11 := eq_true p11
             replace q11 := eq_true q11
             have p13 : 0 ≤ (x9_2 : Int) := of_decide_eq_true (Z8)
             have q13 : x9_2 < ((rdOf ByteArray.empty l0 x12_1).size : Int) := of_decide_eq_true (Z8)
             have hx13 := bt_at (rdOf ByteArray.empty l0 x12_1) x9_2
             replace p13 := eq_true p13
             replace q13 := eq_true q13
             have p15 : 0 ≤ (x9_2 : Int) := of_decide_eq_true (Z8)
             have q15 : x9_2 < ((rdOf ByteArray.empty l1 x12_1).size : Int) := of_decide_eq_true (Z8)
             have hx15 := bt_at (rdOf ByteArray.empty l1 x12_1) x9_2
             replace p15 := eq_true p15
             replace q15 := eq_true q15
             go_wp2
             repeat (go_quiet (fail); try go_wp2)
             go_roundg k2
             case measure => have := HK1.out; have := HK2.out; omega
             case rel => exact ⟨(x5_2), (wrap64 (x9_2 + 1)), (Z10), (Z10), H', ⟨Z47⟩, Z17⟩
            rw [if_neg c16] at H
            have c16b0 : ((bt (rdOf ByteArray.empty l1 x12_1) x9_2) == 63) = false := beq_eq_false_iff_ne.mpr c16
            have c16b1 : ((bt (rdOf ByteArray.empty l1 x12_1) x9_2) != 63) = true := bne_iff_ne.mpr c16
            have H' := Aside0.mk H
            clear H
            have p9 : 0 ≤ (x9_2 : Int) := of_decide_eq_true (Z8)
            have q9 : x9_2 < ((rdOf ByteArray.empty l0 x12_1).size : Int) := of_decide_eq_true (Z8)
            have hx9 := bt_at (rdOf ByteArray.empty l0 x12_1) x9_2
            replace p9 := eq_true p9
            replace q9 := eq_true q9
            have p11 : 0 ≤ (x9_2 : Int) := of_decide_eq_true (Z8)
            have q11 : x9_2 < ((rdOf ByteArray.empty l1 x12_1).size : Int) := of_decide_eq_true (Z8)
            have hx11 := bt_at (rdOf ByteArray.empty l1 x12_1) x9_2
            replace p11 := eq_true p11
            replace q11 := eq_true q11
            have p13 : 0 ≤ (x9_2 : Int) := of_decide_eq_true (Z8)
            have q13 : x9_2 < ((rdOf ByteArray.empty l0 x12_1).size : Int) := of_decide_eq_true (Z8)
            have hx13 := bt_at (rdOf ByteArray.empty l0 x12_1) x9_2
            replace p13 := eq_true p13
            replace q13 := eq_true q13
            have p15 : 0 ≤ (x9_2 : Int) := of_decide_eq_true (Z8)
            have q15 : x9_2 < ((rdOf ByteArray.empty l1 x12_1).size : Int) := of_decide_eq_true (Z8)
            have hx15 := bt_at (rdOf ByteArray.empty l1 x12_1) x9_2
            replace p15 := eq_true p15
            replace q15 := eq_true q15
            go_wp2
            repeat (go_quiet (fail); try go_wp2)
            go_roundg k2
            case measure => have := HK1.out; have := HK2.out; omega
            case rel => exact ⟨(wrap64 (x5_2 + 1)), (wrap64 (x9_2 + 1)), (Z10), (Z10), H', ⟨Z47⟩, Z17⟩
           rw [if_neg c10] at H
           exact absurd H (by simp)
          rw [if_neg c8] at H
          exact absurd H (by simp)
         rw [if_neg c7] at H
         have c7b0 : decide (x9_2 < ((rdOf ByteArray.empty l0 x12_1).size : Int)) = false := decide_eq_false c7
         clear c7
         have H' := Aside0.mk H
         clear H
         go_wp2
         repeat (go_quiet (fail); try go_wp2)
         go_roundg k2
         case measure => have := HK1.out; have := HK2.out; omega
         case rel => exact ⟨(x5_2), (wrap64 (x12_1 + 1)), (Z10), (Z10), H', ⟨Z47⟩, Z17⟩
      rw [if_neg c6] at H
      exact absurd H (by simp)
     rw [if_neg c5] at H
     exact absurd H (by simp)
    rw [if_neg c4] at H
    exact absurd H (by simp)
   rw [if_neg c3] at H
   have c3b0 : decide (x12_1 < (l0.length : Int)) = false := decide_eq_false c3
   clear c3
   obtain rfl := Option.some.inj H
   go_wp2
   repeat (go_quiet (fail); try go_wp2)
   go_ret
   exact ⟨Z10, Z17⟩

/-! ### spec_MeetScans: function 14 -/
mutual
def spec_MeetScans.j0 : Nat → List ByteArray → List ByteArray → Bool → Option (List ByteArray × Bool)
 | 0, _, _, _ => none
 | k + 1, x0, x1, x20 => if x20 = true then (some (([] : List ByteArray), false)) else (spec_MeetScans.l0 k x1 ([] : List ByteArray) x0 (x0.length : Int) 0)
def spec_MeetScans.l0 : Nat → List ByteArray → List ByteArray → List ByteArray → Int → Int → Option (List ByteArray × Bool)
 | 0, _, _, _, _, _ => none
 | k + 1, x1, x6, x21, x22, x23 => if x23 < x22 then (if 0 ≤ x23 then (if x23 < (x21.length : Int) then (spec_MeetScans.l1 k x1 x6 x23 (rdOf ByteArray.empty x21 x23) (⟨#[]⟩ : ByteArray) 0 x21 x22 x23) else (none)) else (none)) else (some (x6, true))
def spec_MeetScans.l1 : Nat → List ByteArray → List ByteArray → Int → ByteArray → ByteArray → Int → List ByteArray → Int → Int → Option (List ByteArray × Bool)
 | 0, _, _, _, _, _, _, _, _, _ => none
 | k + 1, x1, x6, x7, x8, x9, x10, x21, x22, x23 => if x10 < (x8.size : Int) then (if 0 ≤ x10 then (if (bt x8 x10) = 63 then (if 0 ≤ x7 then (if x7 < (x1.length : Int) then (if x10 ≤ (wrap64 (x10 + 1)) then (if (wrap64 (x10 + 1)) ≤ ((rdOf ByteArray.empty x1 x7).size : Int) then (if x9.size + ((rdOf ByteArray.empty x1 x7).extract (x10 : Int).toNat ((wrap64 (x10 + 1)) : Int).toNat).size ≤ 9223372036854775807 then (spec_MeetScans.l1 k x1 x6 x7 x8 (x9 ++ ((rdOf ByteArray.empty x1 x7).extract (x10 : Int).toNat ((wrap64 (x10 + 1)) : Int).toNat)) (wrap64 (x10 + 1)) x21 x22 x23) else (none)) else (none)) else (none)) else (none)) else (none)) else (if x10 ≤ (wrap64 (x10 + 1)) then (if (wrap64 (x10 + 1)) ≤ (x8.size : Int) then (if x9.size + (x8.extract (x10 : Int).toNat ((wrap64 (x10 + 1)) : Int).toNat).size ≤ 9223372036854775807 then (spec_MeetScans.l1 k x1 x6 x7 x8 (x9 ++ (x8.extract (x10 : Int).toNat ((wrap64 (x10 + 1)) : Int).toNat)) (wrap64 (x10 + 1)) x21 x22 x23) else (none)) else (none)) else (none))) else (none)) else (if x6.length < 8796093022208 then (spec_MeetScans.l0 k x1 (x6 ++ [x9]) x21 x22 (wrap64 (x23 + 1))) else (none))
end
def spec_MeetScans.f (k : Nat) (l0 : List ByteArray) (l1 : List ByteArray) : Option (List ByteArray × Bool) := (spec_scTwo.f k l0 l1).bind fun t577 => (if t577 = true then ((spec_scApart.f k l0 l1).bind fun t578 => (spec_MeetScans.j0 k l0 l1 (decide (t578 > 0)))) else (spec_MeetScans.j0 k l0 l1 true))
theorem spec_MeetScans.mono_l : ∀ k, (∀ y0 y1 y2, LeO (spec_MeetScans.j0 k y0 y1 y2) (spec_MeetScans.j0 (k + 1) y0 y1 y2)) ∧ (∀ y0 y1 y2 y3 y4, LeO (spec_MeetScans.l0 k y0 y1 y2 y3 y4) (spec_MeetScans.l0 (k + 1) y0 y1 y2 y3 y4)) ∧ (∀ y0 y1 y2 y3 y4 y5 y6 y7 y8, LeO (spec_MeetScans.l1 k y0 y1 y2 y3 y4 y5 y6 y7 y8) (spec_MeetScans.l1 (k + 1) y0 y1 y2 y3 y4 y5 y6 y7 y8))
 | 0 => ⟨fun _ _ _ r h => by simp [spec_MeetScans.j0] at h, fun _ _ _ _ _ r h => by simp [spec_MeetScans.l0] at h, fun _ _ _ _ _ _ _ _ _ r h => by simp [spec_MeetScans.l1] at h⟩
 | k + 1 => by
  obtain ⟨ih0, ih1, ih2⟩ := spec_MeetScans.mono_l k
  refine ⟨?_, ?_, ?_⟩
  ·intro y0 y1 y2
   unfold spec_MeetScans.j0
   exact mo15_
  ·intro y0 y1 y2 y3 y4
   unfold spec_MeetScans.l0
   exact mo15_
  intro y0 y1 y2 y3 y4 y5 y6 y7 y8
  unfold spec_MeetScans.l1
  exact mo15_
theorem spec_MeetScans.mono : ∀ a0 a1 k, LeO (spec_MeetScans.f k a0 a1) (spec_MeetScans.f (k + 1) a0 a1) := by
 intro a0 a1 k
 obtain ⟨ih0, ih1, ih2⟩ := spec_MeetScans.mono_l k
 unfold spec_MeetScans.f
 exact mo15_
set_option maxHeartbeats 8000000 in
set_option maxRecDepth 100000 in
theorem spec_MeetScans.calls (k : Nat) (A0 : Option Addr) (c0 : Nat) (l0 : List ByteArray) (A1 : Option Addr) (c1 : Nat) (l1 : List ByteArray) (r1 : List ByteArray) (r2 : Bool) (w : World) (hr0 : Kd.C Kd.string w A0 l0.length l0) (hc0 : l0.length ≤ c0) (hr1 : Kd.C Kd.string w A1 l1.length l1) (hc1 : l1.length ≤ c1) (h : spec_MeetScans.f k l0 l1 = some (r1, r2)) :
  Calls Try.prog 14 #[.slice A0 l0.length c0, .slice A1 l1.length c1] w fun e w' => ∃ v0_ : Value, e = .returned (.tuple #[v0_, .bool r2]) ∧ Kd.R Kd.string 9 w' w.heap.size (fun _ => True) v0_ r1 ∧ Below w.heap.size w w' := by
 have HR0 := Aside0.mk hr0
 have HC0 := Aside0.mk hc0
 clear hr0 hc0
 have HR1 := Aside0.mk hr1
 have HC1 := Aside0.mk hc1
 clear hr1 hc1
 have HB := Aside0.mk (Below.refl w.heap.size w)
 have H : ((spec_scTwo.f k l0 l1).bind fun t577 => (if t577 = true then ((spec_scApart.f k l0 l1).bind fun t578 => (spec_MeetScans.j0 k l0 l1 (decide (t578 > 0)))) else (spec_MeetScans.j0 k l0 l1 true))) = some (r1, r2) := h
 clear h
 have HC3 := Aside0.mk H
 clear H
 go_enter Try.func14, Try.ntmps14
 go_upto_region 1 with (fail)
 go_cut [20] (fun v20 wc => ∃ (kq : Nat) (x20_2 : Bool), v20 = .bool x20_2 ∧ Aside0 (spec_MeetScans.j0 kq l0 l1 x20_2 = some (r1, r2)) ∧ Aside0 (kq ≤ k) ∧ Aside0 (Below w.heap.size w wc))
 case first =>
  have H := HC3.out
  clear HC3
  replace H := Option.bind_eq_some_iff.mp H
  obtain ⟨t577, A40, H⟩ := H
  (try dsimp only at H)
  have A4 := Aside0.mk A40
  clear A40
  by_cases c5 : t577 = true
  ·subst c5
   rw [if_pos rfl] at H
   replace H := Option.bind_eq_some_iff.mp H
   obtain ⟨t578, A60, H⟩ := H
   (try dsimp only at H)
   have A6 := Aside0.mk A60
   clear A60
   have H' := Aside0.mk H
   clear H
   go_wp2_with (first | ((with_reducible refine gate_callee (f := 59) rfl ?_); refine gl_ 13 Try.func59 #[.slice A0 l0.length c0, .slice A1 l1.length c1] ?_; (with_reducible refine (spec_scTwo.calls k _ _ l0 _ _ l1 true _ ?_ ?_ ?_ ?_ A4.out).mono ?_); exact Z13 HR0.out; exact HC0.out; exact Z13 HR1.out; exact HC1.out; rintro e w' ⟨rfl, ⟨nd, rfl⟩⟩; refine ⟨_, rfl, ?_⟩) | (go_at_call 60; (with_reducible refine (spec_scApart.calls k _ _ l0 _ _ l1 t578 _ ?_ ?_ ?_ ?_ A6.out).mono ?_); exact Z99 HR0.out; exact HC0.out; exact Z99 HR1.out; exact HC1.out; rintro e w' ⟨rfl, ⟨nd, rfl⟩⟩))
   go_meet
   case rel => exact ⟨_, (decide (t578 > 0)), (Z10), H', ⟨Z65⟩, ⟨Z2⟩⟩
  replace c5 := Bool.eq_false_iff.mpr c5
  subst c5
  rw [if_neg (show ¬ (false = true) by decide)] at H
  have H' := Aside0.mk H
  clear H
  go_wp2_with (first | ((with_reducible refine gate_callee (f := 59) rfl ?_); refine gl_ 13 Try.func59 #[.slice A0 l0.length c0, .slice A1 l1.length c1] ?_; (with_reducible refine (spec_scTwo.calls k _ _ l0 _ _ l1 false _ ?_ ?_ ?_ ?_ A4.out).mono ?_); exact Z13 HR0.out; exact HC0.out; exact Z13 HR1.out; exact HC1.out; rintro e w' ⟨rfl, ⟨nd, rfl⟩⟩; refine ⟨_, rfl, ?_⟩))
  go_meet
  case rel => exact ⟨_, (true), (Z10), H', ⟨Z65⟩, ⟨Z2⟩⟩
 case rest =>
  clear HC3
  (try clear c1); (try clear p2); (try clear c5)
  obtain ⟨kq, x20_2, rfl, HA, HJ2, HB⟩ := hcut
  cases kq with
  | zero => exact absurd HA.out (by simp [spec_MeetScans.j0])
  | succ kj2 =>
   have H := HA.out
   clear HA
   simp only [spec_MeetScans.j0] at H
   by_cases c7 : x20_2 = true
   ·subst c7
    rw [if_pos rfl] at H
    simp only [Option.some.injEq, Prod.mk.injEq] at H
    obtain ⟨rfl, rfl⟩ := H
    go_wp2
    go_ret2
    exact ⟨_, Z11, Z21, Z2⟩
   replace c7 := Bool.eq_false_iff.mpr c7
   subst c7
   rw [if_neg (show ¬ (false = true) by decide)] at H
   have H' := Aside0.mk H
   clear H
   go_wp2
   go_loopg [6, 23] kj2 (fun kq v6 v23 w' => ∃ (x6_2 : List ByteArray) (x23_2 : Int), v23 = .int .i64 x23_2 ∧ Aside0 (spec_MeetScans.l0 kq l1 x6_2 l0 (l0.length : Int) x23_2 = some (r1, r2)) ∧ Aside0 (kq ≤ kj2) ∧ Aside0 (Kd.R Kd.string 9 w' w.heap.size (fun _ => True) v6 x6_2) ∧ Aside0 (Below w.heap.size w w'))
   case atStart => exact ⟨(([] : List ByteArray)), (0), (Z10), H', ⟨Nat.le_refl _⟩, ⟨Z21⟩, ⟨Z2⟩⟩
   case round =>
    clear H'
    (try clear c7)
    obtain ⟨x6_2, x23_2, rfl, HA, HK2, HO_6, HB⟩ := hrel
    cases gk with
    | zero => exact absurd HA.out (by simp [spec_MeetScans.l0])
    | succ k2 =>
     have H := HA.out
     clear HA
     simp only [spec_MeetScans.l0] at H
     by_cases c8 : x23_2 < (l0.length : Int)
     ·rw [if_pos c8] at H
      have c8b0 : decide (x23_2 < (l0.length : Int)) = true := decide_eq_true c8
      clear c8
      by_cases c9 : 0 ≤ x23_2
      ·rw [if_pos c9] at H
       have c9b0 : decide (0 ≤ x23_2) = true := decide_eq_true c9
       clear c9
       by_cases c10 : x23_2 < (l0.length : Int)
       ·rw [if_pos c10] at H
        have c10b0 : decide (x23_2 < (l0.length : Int)) = true := decide_eq_true c10
        clear c10
        have H' := Aside0.mk H
        clear H
        have p579 : 0 ≤ (x23_2 : Int) := of_decide_eq_true (Z8)
        have q579 : x23_2 < (l0.length : Int) := of_decide_eq_true (Z8)
        obtain ⟨ad579, e579, hx579_0⟩ := Kd.at_string HR0.out x23_2 p579 q579
        cases e579
        replace hx579_0 := (HB.out.cell (World.block_lt_of_cell? w _ hx579_0)).trans hx579_0
        replace p579 := eq_true p579
        replace q579 := eq_true q579
        go_wp2
        go_loopg [9, 10] k2 (fun kq v9 v10 w' => ∃ (x9_3 : ByteArray) (x10_3 : Int), v9 = .string x9_3 ∧ v10 = .int .i64 x10_3 ∧ Aside0 (spec_MeetScans.l1 kq l1 x6_2 x23_2 (rdOf ByteArray.empty l0 x23_2) x9_3 x10_3 l0 (l0.length : Int) x23_2 = some (r1, r2)) ∧ Aside0 (kq ≤ k2) ∧ Aside0 (Kd.R Kd.string 9 w' w.heap.size (fun _ => True) u6 x6_2) ∧ Aside0 (Below w.heap.size w w'))
        case atStart => exact ⟨((⟨#[]⟩ : ByteArray)), (0), (Z10), (Z10), H', ⟨Nat.le_refl _⟩, ⟨Z1 HO_6.out⟩, ⟨Z2⟩⟩
        case round =>
         clear H'
         (try clear p5); (try clear q5); (try clear hx5); (try clear c8); (try clear c8b0); (try clear c9); (try clear c9b0); (try clear c10); (try clear c10b0); (try clear hx579_0); (try clear p579); (try clear q579)
         obtain ⟨x9_3, x10_3, rfl, rfl, HA, HK3, HO_6, HB⟩ := hrel
         cases gk with
         | zero => exact absurd HA.out (by simp [spec_MeetScans.l1])
         | succ k3 =>
          have H := HA.out
          clear HA
          simp only [spec_MeetScans.l1] at H
          by_cases c11 : x10_3 < ((rdOf ByteArray.empty l0 x23_2).size : Int)
          ·rw [if_pos c11] at H
           have c11b0 : decide (x10_3 < ((rdOf ByteArray.empty l0 x23_2).size : Int)) = true := decide_eq_true c11
           clear c11
           by_cases c12 : 0 ≤ x10_3
           ·rw [if_pos c12] at H
            have c12b0 : decide (0 ≤ x10_3) = true := decide_eq_true c12
            clear c12
            by_cases c14 : (bt (rdOf ByteArray.empty l0 x23_2) x10_3) = 63
            ·rw [if_pos c14] at H
             have c14b0 : ((bt (rdOf ByteArray.empty l0 x23_2) x10_3) == 63) = true := beq_iff_eq.mpr c14
             have c14b1 : ((bt (rdOf ByteArray.empty l0 x23_2) x10_3) != 63) = false := bne_eq_false_iff_eq.mpr c14
             clear c14
             by_cases c15 : 0 ≤ x23_2
             ·rw [if_pos c15] at H
              have c15b0 : decide (0 ≤ x23_2) = true := decide_eq_true c15
              clear c15
              by_cases c16 : x23_2 < (l1.length : Int)
              ·rw [if_pos c16] at H
               have c16b0 : decide (x23_2 < (l1.length : Int)) = true := decide_eq_true c16
               clear c16
               have c17b0 := eq_true (of_decide_eq_true (Z8) : 0 ≤ x10_3)
               by_cases c18 : x10_3 ≤ (wrap64 (x10_3 + 1))
               ·rw [if_pos c18] at H
                have c18b0 := eq_true c18
                have c18b1 : decide (x10_3 ≤ (wrap64 (x10_3 + 1))) = true := decide_eq_true c18
                by_cases c19 : (wrap64 (x10_3 + 1)) ≤ ((rdOf ByteArray.empty l1 x23_2).size : Int)
                ·rw [if_pos c19] at H
                 have c19b0 := eq_true c19
                 have c19b1 : decide ((wrap64 (x10_3 + 1)) ≤ ((rdOf ByteArray.empty l1 x23_2).size : Int)) = true := decide_eq_true c19
                 by_cases c20 : x9_3.size + ((rdOf ByteArray.empty l1 x23_2).extract (x10_3 : Int).toNat ((wrap64 (x10_3 + 1)) : Int).toNat).size ≤ 9223372036854775807
                 ·rw [if_pos c20] at H
                  have c20b0 := eq_true c20
                  have c20b1 : decide (x9_3.size + ((rdOf ByteArray.empty l1 x23_2).extract (x10_3 : Int).toNat ((wrap64 (x10_3 + 1)) : Int).toNat).size ≤ 9223372036854775807) = true := decide_eq_true c20
                  try have c20b2 : (9223372036854775807 < x9_3.size + ((rdOf ByteArray.empty l1 x23_2).extract (x10_3 : Int).toNat ((wrap64 (x10_3 + 1)) : Int).toNat).size) = False := eq_false (Nat.not_lt.2 c20)
                  have H' := Aside0.mk H
                  clear H
                  have p13 : 0 ≤ (x10_3 : Int) := of_decide_eq_true (Z8)
                  have q13 : x10_3 < ((rdOf ByteArray.empty l0 x23_2).size : Int) := of_decide_eq_true (Z8)
                  have hx13 := bt_at (rdOf ByteArray.empty l0 x23_2) x10_3
                  replace p13 := eq_true p13
                  replace q13 := eq_true q13
                  have p580 : 0 ≤ (x23_2 : Int) := of_decide_eq_true (Z8)
                  have q580 : x23_2 < (l1.length : Int) := of_decide_eq_true (Z8)
                  obtain ⟨ad580, e580, hx580_0⟩ := Kd.at_string HR1.out x23_2 p580 q580
                  cases e580
                  replace hx580_0 := (HB.out.cell (World.block_lt_of_cell? w _ hx580_0)).trans hx580_0
                  replace p580 := eq_true p580
                  replace q580 := eq_true q580
                  go_wp2
                  go_roundg k3
                  case measure => have := HJ2.out; have := HK2.out; have := HK3.out; omega
                  case rel => exact ⟨(x9_3 ++ ((rdOf ByteArray.empty l1 x23_2).extract (x10_3 : Int).toNat ((wrap64 (x10_3 + 1)) : Int).toNat)), (wrap64 (x10_3 + 1)), (Z10), (Z10), H', ⟨Z84 HJ2.out⟩, ⟨Z1 HO_6.out⟩, ⟨Z2⟩⟩
                 rw [if_neg c20] at H
                 exact absurd H (by simp)
                rw [if_neg c19] at H
                exact absurd H (by simp)
               rw [if_neg c18] at H
               exact absurd H (by simp)
              rw [if_neg c16] at H
              exact absurd H (by simp)
             rw [if_neg c15] at H
             exact absurd H (by simp)
            rw [if_neg c14] at H
            have c14b0 : ((bt (rdOf ByteArray.empty l0 x23_2) x10_3) == 63) = false := beq_eq_false_iff_ne.mpr c14
            have c14b1 : ((bt (rdOf ByteArray.empty l0 x23_2) x10_3) != 63) = true := bne_iff_ne.mpr c14
            have c21b0 := eq_true (of_decide_eq_true (Z8) : 0 ≤ x10_3)
            by_cases c22 : x10_3 ≤ (wrap64 (x10_3 + 1))
            ·rw [if_pos c22] at H
             have c22b0 := eq_true c22
             have c22b1 : decide (x10_3 ≤ (wrap64 (x10_3 + 1))) = true := decide_eq_true c22
             by_cases c23 : (wrap64 (x10_3 + 1)) ≤ ((rdOf ByteArray.empty l0 x23_2).size : Int)
             ·rw [if_pos c23] at H
              have c23b0 := eq_true c23
              have c23b1 : decide ((wrap64 (x10_3 + 1)) ≤ ((rdOf ByteArray.empty l0 x23_2).size : Int)) = true := decide_eq_true c23
              by_cases c24 : x9_3.size + ((rdOf ByteArray.empty l0 x23_2).extract (x10_3 : Int).toNat ((wrap64 (x10_3 + 1)) : Int).toNat).size ≤ 9223372036854775807
              ·rw [if_pos c24] at H
               have c24b0 := eq_true c24
               have c24b1 : decide (x9_3.size + ((rdOf ByteArray.empty l0 x23_2).extract (x10_3 : Int).toNat ((wrap64 (x10_3 + 1)) : Int).toNat).size ≤ 9223372036854775807) = true := decide_eq_true c24
               try have c24b2 : (9223372036854775807 < x9_3.size + ((rdOf ByteArray.empty l0 x23_2).extract (x10_3 : Int).toNat ((wrap64 (x10_3 + 1)) : Int).toNat).size) = False := eq_false (Nat.not_lt.2 c24)
               have H' := Aside0.mk H
               clear H
               have p13 : 0 ≤ (x10_3 : Int) := of_decide_eq_true (Z8)
               have q13 : x10_3 < ((rdOf ByteArray.empty l0 x23_2).size : Int) := of_decide_eq_true (Z8)
               have hx13 := bt_at (rdOf ByteArray.empty l0 x23_2) x10_3
               replace p13 := eq_true p13
               replace q13 := eq_true q13
               go_wp2
               go_roundg k3
               case measure => have := HJ2.out; have := HK2.out; have := HK3.out; omega
               case rel => exact ⟨(x9_3 ++ ((rdOf ByteArray.empty l0 x23_2).extract (x10_3 : Int).toNat ((wrap64 (x10_3 + 1)) : Int).toNat)), (wrap64 (x10_3 + 1)), (Z10), (Z10), H', ⟨Z84 HJ2.out⟩, ⟨Z1 HO_6.out⟩, ⟨Z2⟩⟩
              rw [if_neg c24] at H
              exact absurd H (by simp)
             rw [if_neg c23] at H
             exact absurd H (by simp)
            rw [if_neg c22] at H
            exact absurd H (by simp)
           rw [if_neg c12] at H
           exact absurd H (by simp)
          rw [if_neg c11] at H
          have c11b0 : decide (x10_3 < ((rdOf ByteArray.empty l0 x23_2).size : Int)) = false := decide_eq_false c11
          clear c11
          by_cases c25 : x6_2.length < 8796093022208
          ·rw [if_pos c25] at H
           have LMc25 := Aside0.mk c25
           clear c25
           obtain ⟨y581, hy581⟩ : ∃ y_ : List ByteArray, y_ = (x6_2 ++ [x9_3]) := ⟨_, rfl⟩
           replace H : (spec_MeetScans.l0 k3 l1 y581 l0 (l0.length : Int) (wrap64 (x23_2 + 1))) = some (r1, r2) := by first | (rw [hy581]; with_reducible exact H) | (have H2_ := (Option.bind_some _ _).symm.trans H; rw [hy581]; with_reducible exact H2_) | (have H2_ := (Option.bind_some _ _).symm.trans H; with_reducible exact H2_) | with_reducible exact H | (rw [hy581]; exact H) | exact H
           have Ny581 := Aside0.mk hy581
           clear hy581
           have H' := Aside0.mk H
           clear H
           go_wp2_with (first | ((with_reducible refine gate_builtin (b := .append) (xs := #[.tmp 55, .tmp 57]) rfl ?_); at_builtin; refine Kd.R_append Kd.string (w0 := w) w.heap.size rfl (.tmp 55) (.tmp 57) 24 9 (.string ⟨#[]⟩) 16 rfl Try.underlying24 info9 rfl (by decide) (by omega) u6 x6_2 x9_3 [.string x9_3] (fun _ => True) (fun _ => False) rfl rfl ?aP (fun _ hk => hk.elim) ?aF ?aO ?aB ?aS ?aL ?_; (case aP => exact rfl); (case aB => exact Z2); (case aF => exact (fun _ _ => trivial)); (case aO => exact Z1 HO_6.out); (case aS => exact (below_size (Z2))); (case aL => have := LMc25.out; omega); intro v582 w26 ho hb hg hat; rw [← Ny581.out] at ho; refine k2_ (hb) (ho) ?_; clear HB HO_6; intro HB HO583; clear ho hb hg hat))
           go_roundg k3
           case measure => have := HJ2.out; have := HK2.out; have := HK3.out; omega
           case rel => exact ⟨(y581), (wrap64 (x23_2 + 1)), (Z10), H', ⟨Z84 HJ2.out⟩, ⟨Z1 HO583.out⟩, ⟨Z2⟩⟩
          rw [if_neg c25] at H
          exact absurd H (by simp)
       rw [if_neg c10] at H
       exact absurd H (by simp)
      rw [if_neg c9] at H
      exact absurd H (by simp)
     rw [if_neg c8] at H
     have c8b0 : decide (x23_2 < (l0.length : Int)) = false := decide_eq_false c8
     clear c8
     simp only [Option.some.injEq, Prod.mk.injEq] at H
     obtain ⟨rfl, rfl⟩ := H
     go_wp2
     go_ret2
     exact ⟨_, Z11, Z1 HO_6.out, Z2⟩

/-! ### spec_AgreeScans: function 15 -/
def spec_AgreeScans.f (k : Nat) (l0 : List ByteArray) (l1 : List ByteArray) : Option (Bool × Bool) := (spec_scTwo.f k l0 l1).bind fun t584 => (if t584 = true then ((spec_scApart.f k l0 l1).bind fun t585 => (some ((t585 == 0), true))) else (some (false, false)))
theorem spec_AgreeScans.mono : ∀ a0 a1 k, LeO (spec_AgreeScans.f k a0 a1) (spec_AgreeScans.f (k + 1) a0 a1) := by
 intro a0 a1 k
 unfold spec_AgreeScans.f
 exact mo15_
set_option maxHeartbeats 8000000 in
set_option maxRecDepth 100000 in
theorem spec_AgreeScans.calls (k : Nat) (A0 : Option Addr) (c0 : Nat) (l0 : List ByteArray) (A1 : Option Addr) (c1 : Nat) (l1 : List ByteArray) (r1 : Bool) (r2 : Bool) (w : World) (hr0 : Kd.C Kd.string w A0 l0.length l0) (hc0 : l0.length ≤ c0) (hr1 : Kd.C Kd.string w A1 l1.length l1) (hc1 : l1.length ≤ c1) (h : spec_AgreeScans.f k l0 l1 = some (r1, r2)) :
  Calls Try.prog 15 #[.slice A0 l0.length c0, .slice A1 l1.length c1] w fun e w' => e = .returned (.tuple #[.bool r1, .bool r2]) ∧ Drawn0 w w' := by
 have HR0 := Aside0.mk hr0
 have HC0 := Aside0.mk hc0
 clear hr0 hc0
 have HR1 := Aside0.mk hr1
 have HC1 := Aside0.mk hc1
 clear hr1 hc1
 have H : ((spec_scTwo.f k l0 l1).bind fun t584 => (if t584 = true then ((spec_scApart.f k l0 l1).bind fun t585 => (some ((t585 == 0), true))) else (some (false, false)))) = some (r1, r2) := h
 clear h
 replace H := Option.bind_eq_some_iff.mp H
 obtain ⟨t584, A30, H⟩ := H
 (try dsimp only at H)
 have A3 := Aside0.mk A30
 clear A30
 by_cases c4 : t584 = true
 ·subst c4
  rw [if_pos rfl] at H
  replace H := Option.bind_eq_some_iff.mp H
  obtain ⟨t585, A50, H⟩ := H
  replace H : (some ((t585 == 0), true)) = some (r1, r2) := H
  have A5 := Aside0.mk A50
  clear A50
  simp only [Option.some.injEq, Prod.mk.injEq] at H
  obtain ⟨rfl, rfl⟩ := H
  go_enter Try.func15, Try.ntmps15
  go_wp2_with (first | ((with_reducible refine gate_callee (f := 59) rfl ?_); refine gl_ 8 Try.func59 #[.slice A0 l0.length c0, .slice A1 l1.length c1] ?_; (with_reducible refine (spec_scTwo.calls k _ _ l0 _ _ l1 true _ ?_ ?_ ?_ ?_ A3.out).mono ?_); exact Z9 HR0.out; exact HC0.out; exact Z9 HR1.out; exact HC1.out; rintro e w' ⟨rfl, ⟨nd, rfl⟩⟩; refine ⟨_, rfl, ?_⟩) | ((with_reducible refine gate_callee (f := 60) rfl ?_); refine gl_ 12 Try.func60 #[.slice A0 l0.length c0, .slice A1 l1.length c1] ?_; (with_reducible refine (spec_scApart.calls k _ _ l0 _ _ l1 t585 _ ?_ ?_ ?_ ?_ A5.out).mono ?_); exact Z9 HR0.out; exact HC0.out; exact Z9 HR1.out; exact HC1.out; rintro e w' ⟨rfl, ⟨nd, rfl⟩⟩; refine ⟨_, rfl, ?_⟩))
  go_ret2
  exact ⟨Z10, Z17⟩
 replace c4 := Bool.eq_false_iff.mpr c4
 subst c4
 rw [if_neg (show ¬ (false = true) by decide)] at H
 simp only [Option.some.injEq, Prod.mk.injEq] at H
 obtain ⟨rfl, rfl⟩ := H
 go_enter Try.func15, Try.ntmps15
 go_wp2_with (first | ((with_reducible refine gate_callee (f := 59) rfl ?_); refine gl_ 8 Try.func59 #[.slice A0 l0.length c0, .slice A1 l1.length c1] ?_; (with_reducible refine (spec_scTwo.calls k _ _ l0 _ _ l1 false _ ?_ ?_ ?_ ?_ A3.out).mono ?_); exact Z9 HR0.out; exact HC0.out; exact Z9 HR1.out; exact HC1.out; rintro e w' ⟨rfl, ⟨nd, rfl⟩⟩; refine ⟨_, rfl, ?_⟩))
 go_ret2
 exact ⟨Z10, Z17⟩

/-! ### spec_DrawBestSkew: function 16 -/
def spec_DrawBestSkew.f (k : Nat) (l0 : List Int) : Option (List ByteArray × List ByteArray) := (spec_DrawAgreeScans.f k l0).bind fun bt586 => (some (bt586.2, bt586.1))
theorem spec_DrawBestSkew.mono : ∀ a0 k, LeO (spec_DrawBestSkew.f k a0) (spec_DrawBestSkew.f (k + 1) a0) := by
 intro a0 k
 unfold spec_DrawBestSkew.f
 exact mo15_
set_option maxHeartbeats 8000000 in
set_option maxRecDepth 100000 in
theorem spec_DrawBestSkew.calls (k : Nat) (A0 : Option Addr) (c0 : Nat) (l0 : List Int) (r1 : List ByteArray) (r2 : List ByteArray) (w : World) (hr0 : Kd.C (Kd.int .u8) w A0 l0.length l0) (hc0 : l0.length ≤ c0) (h : spec_DrawBestSkew.f k l0 = some (r1, r2)) :
  Calls Try.prog 16 #[.slice A0 l0.length c0] w fun e w' => ∃ v0_ v1_ : Value, e = .returned (.tuple #[v0_, v1_]) ∧ Kd.R Kd.string 9 w' w.heap.size (fun k_ => some k_ ≠ (v1_ : Value).ownBlock) v0_ r1 ∧ Kd.R Kd.string 9 w' w.heap.size (fun k_ => some k_ ≠ (v0_ : Value).ownBlock) v1_ r2 ∧ Below w.heap.size w w' := by
 have HR0 := Aside0.mk hr0
 have HC0 := Aside0.mk hc0
 clear hr0 hc0
 have HB := Aside0.mk (Below.refl w.heap.size w)
 have H : ((spec_DrawAgreeScans.f k l0).bind fun bt586 => (some (bt586.2, bt586.1))) = some (r1, r2) := h
 clear h
 replace H := Option.bind_eq_some_iff.mp H
 obtain ⟨⟨t586, t587⟩, A20, H⟩ := H
 replace H : (some (t587, t586)) = some (r1, r2) := H
 have A2 := Aside0.mk A20
 clear A20
 simp only [Option.some.injEq, Prod.mk.injEq] at H
 obtain ⟨rfl, rfl⟩ := H
 go_enter Try.func16, Try.ntmps16
 go_wp2_with (first | ((with_reducible refine gate_callee (f := 58) rfl ?_); refine gl_ 8 Try.func58 #[.slice A0 l0.length c0] ?_; (with_reducible refine (spec_DrawAgreeScans.calls k _ _ l0 t586 t587 _ ?_ ?_ A2.out).mono ?_); exact Z9 HR0.out; exact HC0.out; rintro e w3 ⟨v588, v590, rfl, ho0, ho1, hb⟩; refine ⟨_, rfl, ?_⟩; refine k3_ (Kd.R_lower ho0 (below_size (Z2))) (Kd.R_lower ho1 (below_size (Z2))) (below_step (Z2) hb) ?_; clear HB; intro HO589 HO591 HB; (try clear hb ho0 ho1)))
 go_ret2
 exact ⟨_, _, Z11, Z1 HO591.out, Z1 HO589.out, Z2⟩

end Go.Proofs.Ytmnnmddfmmaohaa.PFnStains
