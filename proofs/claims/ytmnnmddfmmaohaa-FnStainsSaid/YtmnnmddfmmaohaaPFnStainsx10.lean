-- written by a program of this session: the kit's print, with outer functions of the session's own (wip/ext)
import Derived.Test.YtmnnmddfmmaohaaPFnStainsx0
import Derived.Test.YtmnnmddfmmaohaaPFnStainsx1
namespace Go.Proofs.Ytmnnmddfmmaohaa.PFnStains
open Go.RowKit Go.Proofs.YtmnnmddfmmaohaaW.PrintWords Go.Proofs.YtmnnmddfmmaohaaW.PrintLast Go.Proofs.YtmnnmddfmmaohaaW.PrintMore
attribute [local go_sem] max2_int min2_int max_two min_two max_three min_three max_four min_four   -- for this text's walks alone
set_option linter.unusedVariables false
set_option linter.unusedSimpArgs false
theorem mo10_ {p : Prop} (h : p := by repeat' first | (with_reducible first | apply ih0 | apply ih0 | apply ih1 | apply ih1 | apply ih2 | apply ih2 | apply spec_scGood.mono | apply spec_scGood.mono | exact LeO.refl _ | exact LeO.none _ | refine LeO.ite ?_ ?_ | refine LeO.bind ?_ (fun _ => ?_)) | exact LeO.none _ | refine LeO.ite ?_ ?_ | refine LeO.bind ?_ (fun _ => ?_)) : p := h

/-! ### spec_scGood: function 51 -/
mutual
def spec_scGood.l0 : Nat → List ByteArray → List ByteArray → Int → Int → Option (Bool)
 | 0, _, _, _, _ => none
 | k + 1, x0, x6, x7, x8 => if x8 < x7 then (if 0 ≤ x8 then (if x8 < (x6.length : Int) then (if 0 < (x0.length : Int) then (if ((rdOf ByteArray.empty x6 x8).size : Int) = ((rdOf ByteArray.empty x0 0).size : Int) then (spec_scGood.l1 k x0 (rdOf ByteArray.empty x6 x8) 0 x6 x7 x8) else (some false)) else (none)) else (none)) else (none)) else ((spec_l1In.f (x0.length : Int) 1 60).bind fun t436 => (if t436 = true then (if 0 < (x0.length : Int) then ((spec_l1In.f ((rdOf ByteArray.empty x0 0).size : Int) 1 20).bind fun t438 => (some t438)) else (none)) else (some false)))
def spec_scGood.l1 : Nat → List ByteArray → ByteArray → Int → List ByteArray → Int → Int → Option (Bool)
 | 0, _, _, _, _, _, _ => none
 | k + 1, x0, x4, x5, x6, x7, x8 => if x5 < (x4.size : Int) then (if 0 ≤ x5 then (if (bt x4 x5) = 46 then (spec_scGood.l1 k x0 x4 (wrap64 (x5 + 1)) x6 x7 x8) else (if (bt x4 x5) = 111 then (spec_scGood.l1 k x0 x4 (wrap64 (x5 + 1)) x6 x7 x8) else (if (bt x4 x5) = 63 then (spec_scGood.l1 k x0 x4 (wrap64 (x5 + 1)) x6 x7 x8) else (some false)))) else (none)) else (spec_scGood.l0 k x0 x6 x7 (wrap64 (x8 + 1)))
end
def spec_scGood.f (k : Nat) (l0 : List ByteArray) : Option (Bool) := spec_scGood.l0 k l0 l0 (l0.length : Int) 0
theorem spec_scGood.mono_l : ∀ k, (∀ y0 y1 y2 y3, LeO (spec_scGood.l0 k y0 y1 y2 y3) (spec_scGood.l0 (k + 1) y0 y1 y2 y3)) ∧ (∀ y0 y1 y2 y3 y4 y5, LeO (spec_scGood.l1 k y0 y1 y2 y3 y4 y5) (spec_scGood.l1 (k + 1) y0 y1 y2 y3 y4 y5))
 | 0 => ⟨fun _ _ _ _ r h => by simp [spec_scGood.l0] at h, fun _ _ _ _ _ _ r h => by simp [spec_scGood.l1] at h⟩
 | k + 1 => by
  obtain ⟨ih0, ih1⟩ := spec_scGood.mono_l k
  refine ⟨?_, ?_⟩
  ·intro y0 y1 y2 y3
   unfold spec_scGood.l0
   exact mo10_
  intro y0 y1 y2 y3 y4 y5
  unfold spec_scGood.l1
  exact mo10_
theorem spec_scGood.mono : ∀ a0 k, LeO (spec_scGood.f k a0) (spec_scGood.f (k + 1) a0) := by
 intro a0 k
 obtain ⟨ih0, ih1⟩ := spec_scGood.mono_l k
 unfold spec_scGood.f
 exact mo10_
set_option maxHeartbeats 8000000 in
set_option maxRecDepth 100000 in
theorem spec_scGood.calls (k : Nat) (A0 : Option Addr) (c0 : Nat) (l0 : List ByteArray) (r : Bool) (w : World) (hr0 : Kd.C Kd.string w A0 l0.length l0) (hc0 : l0.length ≤ c0) (h : spec_scGood.f k l0 = some r) :
  Calls Try.prog 51 #[.slice A0 l0.length c0] w fun e w' => e = .returned (.bool r) ∧ Drawn0 w w' := by
 have HR0 := Aside0.mk hr0
 have HC0 := Aside0.mk hc0
 clear hr0 hc0
 have H : (spec_scGood.l0 k l0 l0 (l0.length : Int) 0) = some r := h
 clear h
 have H' := Aside0.mk H
 clear H
 go_enter Try.func51, Try.ntmps51
 go_wp2
 go_loopg [8] k (fun kq v8 w' => ∃ (x8_1 : Int), v8 = .int .i64 x8_1 ∧ Aside0 (spec_scGood.l0 kq l0 l0 (l0.length : Int) x8_1 = some r) ∧ Aside0 (kq ≤ k) ∧ Drawn0 w w')
 case atStart => exact ⟨(0), (Z10), H', ⟨Nat.le_refl _⟩, Z17⟩
 case round =>
  clear H'
  obtain ⟨x8_1, rfl, HA, HK1, ⟨m1, rfl⟩⟩ := hrel
  cases gk with
  | zero => exact absurd HA.out (by simp [spec_scGood.l0])
  | succ k1 =>
   have H := HA.out
   clear HA
   simp only [spec_scGood.l0] at H
   by_cases c2 : x8_1 < (l0.length : Int)
   ·rw [if_pos c2] at H
    have c2b0 : decide (x8_1 < (l0.length : Int)) = true := decide_eq_true c2
    clear c2
    by_cases c3 : 0 ≤ x8_1
    ·rw [if_pos c3] at H
     have c3b0 : decide (0 ≤ x8_1) = true := decide_eq_true c3
     clear c3
     by_cases c4 : x8_1 < (l0.length : Int)
     ·rw [if_pos c4] at H
      have c4b0 : decide (x8_1 < (l0.length : Int)) = true := decide_eq_true c4
      clear c4
      by_cases c5 : 0 < (l0.length : Int)
      ·rw [if_pos c5] at H
       have c5b0 : decide (0 < (l0.length : Int)) = true := decide_eq_true c5
       have c5b1 : decide (0 < l0.length) = true := decide_eq_true (by omega)
       clear c5
       by_cases c6 : ((rdOf ByteArray.empty l0 x8_1).size : Int) = ((rdOf ByteArray.empty l0 0).size : Int)
       ·rw [if_pos c6] at H
        have c6b0 : (((rdOf ByteArray.empty l0 x8_1).size : Int) == ((rdOf ByteArray.empty l0 0).size : Int)) = true := beq_iff_eq.mpr c6
        have c6b1 : (((rdOf ByteArray.empty l0 x8_1).size : Int) != ((rdOf ByteArray.empty l0 0).size : Int)) = false := bne_eq_false_iff_eq.mpr c6
        have c6b2 : ((rdOf ByteArray.empty l0 x8_1).size == (rdOf ByteArray.empty l0 0).size) = true := by first | simpa using c6 | (simp at c6 ⊢; omega)
        clear c6
        have H' := Aside0.mk H
        clear H
        have p439 : 0 ≤ (x8_1 : Int) := of_decide_eq_true (Z8)
        have q439 : x8_1 < (l0.length : Int) := of_decide_eq_true (Z8)
        obtain ⟨ad439, e439, hx439_0⟩ := Kd.at_string HR0.out x8_1 p439 q439
        cases e439
        replace p439 := eq_true p439
        replace q439 := eq_true q439
        have p440 : 0 ≤ (0 : Int) := (by omega)
        have q440 : 0 < (l0.length : Int) := of_decide_eq_true (Z8)
        obtain ⟨ad440, e440, hx440_0⟩ := Kd.at_string HR0.out 0 p440 q440
        obtain rfl : ad439 = ad440 := (by injection e440)
        have qi440 : (0 < l0.length) = True := eq_true (by omega)
        (try rw [show ((0 : Int)).toNat = 0 from rfl] at hx440_0)
        (try rw [Addr.add_zero'] at hx440_0)
        replace p440 := eq_true p440
        replace q440 := eq_true q440
        go_wp2
        go_loopg [5] k1 (fun kq v5 w' => ∃ (x5_2 : Int), v5 = .int .i64 x5_2 ∧ Aside0 (spec_scGood.l1 kq l0 (rdOf ByteArray.empty l0 x8_1) x5_2 l0 (l0.length : Int) x8_1 = some r) ∧ Aside0 (kq ≤ k1) ∧ Drawn0 w w')
        case atStart => exact ⟨(0), (Z10), H', ⟨Nat.le_refl _⟩, Z17⟩
        case round =>
         clear H'
         (try clear c2); (try clear c2b0); (try clear p2); (try clear c3); (try clear c3b0); (try clear c4); (try clear c4b0); (try clear p4); (try clear q4); (try clear hx4); (try clear qi4); (try clear c5); (try clear c5b0); (try clear c5b1); (try clear c6); (try clear c6b0); (try clear c6b1); (try clear c6b2); (try clear hx439_0); (try clear hx440_0); (try clear p439); (try clear p440); (try clear q439); (try clear q440)
         obtain ⟨x5_2, rfl, HA, HK2, ⟨m2, rfl⟩⟩ := hrel
         cases gk with
         | zero => exact absurd HA.out (by simp [spec_scGood.l1])
         | succ k2 =>
          have H := HA.out
          clear HA
          simp only [spec_scGood.l1] at H
          by_cases c7 : x5_2 < ((rdOf ByteArray.empty l0 x8_1).size : Int)
          ·rw [if_pos c7] at H
           have c7b0 : decide (x5_2 < ((rdOf ByteArray.empty l0 x8_1).size : Int)) = true := decide_eq_true c7
           clear c7
           by_cases c8 : 0 ≤ x5_2
           ·rw [if_pos c8] at H
            have c8b0 : decide (0 ≤ x5_2) = true := decide_eq_true c8
            clear c8
            by_cases c10 : (bt (rdOf ByteArray.empty l0 x8_1) x5_2) = 46
            ·rw [if_pos c10] at H
             have c10b0 : ((bt (rdOf ByteArray.empty l0 x8_1) x5_2) == 46) = true := beq_iff_eq.mpr c10
             have c10b1 : ((bt (rdOf ByteArray.empty l0 x8_1) x5_2) != 46) = false := bne_eq_false_iff_eq.mpr c10
             clear c10
             have H' := Aside0.mk H
             clear H
             have p9 : 0 ≤ (x5_2 : Int) := of_decide_eq_true (Z8)
             have q9 : x5_2 < ((rdOf ByteArray.empty l0 x8_1).size : Int) := of_decide_eq_true (Z8)
             have hx9 := bt_at (rdOf ByteArray.empty l0 x8_1) x5_2
             replace p9 := eq_true p9
             replace q9 := eq_true q9
             go_wp2
             go_roundg k2
             case measure => have := HK1.out; have := HK2.out; omega
             case rel => exact ⟨(wrap64 (x5_2 + 1)), (Z10), H', ⟨Z47⟩, Z17⟩
            rw [if_neg c10] at H
            have c10b0 : ((bt (rdOf ByteArray.empty l0 x8_1) x5_2) == 46) = false := beq_eq_false_iff_ne.mpr c10
            have c10b1 : ((bt (rdOf ByteArray.empty l0 x8_1) x5_2) != 46) = true := bne_iff_ne.mpr c10
            by_cases c12 : (bt (rdOf ByteArray.empty l0 x8_1) x5_2) = 111
            ·rw [if_pos c12] at H
             have c12b0 : ((bt (rdOf ByteArray.empty l0 x8_1) x5_2) == 111) = true := beq_iff_eq.mpr c12
             have c12b1 : ((bt (rdOf ByteArray.empty l0 x8_1) x5_2) != 111) = false := bne_eq_false_iff_eq.mpr c12
             clear c12
             have H' := Aside0.mk H
             clear H
             have p9 : 0 ≤ (x5_2 : Int) := of_decide_eq_true (Z8)
             have q9 : x5_2 < ((rdOf ByteArray.empty l0 x8_1).size : Int) := of_decide_eq_true (Z8)
             have hx9 := bt_at (rdOf ByteArray.empty l0 x8_1) x5_2
             replace p9 := eq_true p9
             replace q9 := eq_true q9
             have p11 : 0 ≤ (x5_2 : Int) := of_decide_eq_true (Z8)
             have q11 : x5_2 < ((rdOf ByteArray.empty l0 x8_1).size : Int) := of_decide_eq_true (Z8)
             have hx11 := bt_at (rdOf ByteArray.empty l0 x8_1) x5_2
             replace p11 := eq_true p11
             replace q11 := eq_true q11
             go_wp2
             go_roundg k2
             case measure => have := HK1.out; have := HK2.out; omega
             case rel => exact ⟨(wrap64 (x5_2 + 1)), (Z10), H', ⟨Z47⟩, Z17⟩
            rw [if_neg c12] at H
            have c12b0 : ((bt (rdOf ByteArray.empty l0 x8_1) x5_2) == 111) = false := beq_eq_false_iff_ne.mpr c12
            have c12b1 : ((bt (rdOf ByteArray.empty l0 x8_1) x5_2) != 111) = true := bne_iff_ne.mpr c12
            by_cases c14 : (bt (rdOf ByteArray.empty l0 x8_1) x5_2) = 63
            ·rw [if_pos c14] at H
             have c14b0 : ((bt (rdOf ByteArray.empty l0 x8_1) x5_2) == 63) = true := beq_iff_eq.mpr c14
             have c14b1 : ((bt (rdOf ByteArray.empty l0 x8_1) x5_2) != 63) = false := bne_eq_false_iff_eq.mpr c14
             clear c14
             have H' := Aside0.mk H
             clear H
             have p9 : 0 ≤ (x5_2 : Int) := of_decide_eq_true (Z8)
             have q9 : x5_2 < ((rdOf ByteArray.empty l0 x8_1).size : Int) := of_decide_eq_true (Z8)
             have hx9 := bt_at (rdOf ByteArray.empty l0 x8_1) x5_2
             replace p9 := eq_true p9
             replace q9 := eq_true q9
             have p11 : 0 ≤ (x5_2 : Int) := of_decide_eq_true (Z8)
             have q11 : x5_2 < ((rdOf ByteArray.empty l0 x8_1).size : Int) := of_decide_eq_true (Z8)
             have hx11 := bt_at (rdOf ByteArray.empty l0 x8_1) x5_2
             replace p11 := eq_true p11
             replace q11 := eq_true q11
             have p13 : 0 ≤ (x5_2 : Int) := of_decide_eq_true (Z8)
             have q13 : x5_2 < ((rdOf ByteArray.empty l0 x8_1).size : Int) := of_decide_eq_true (Z8)
             have hx13 := bt_at (rdOf ByteArray.empty l0 x8_1) x5_2
             replace p13 := eq_true p13
             replace q13 := eq_true q13
             go_wp2
             go_roundg k2
             case measure => have := HK1.out; have := HK2.out; omega
             case rel => exact ⟨(wrap64 (x5_2 + 1)), (Z10), H', ⟨Z47⟩, Z17⟩
            rw [if_neg c14] at H
            have c14b0 : ((bt (rdOf ByteArray.empty l0 x8_1) x5_2) == 63) = false := beq_eq_false_iff_ne.mpr c14
            have c14b1 : ((bt (rdOf ByteArray.empty l0 x8_1) x5_2) != 63) = true := bne_iff_ne.mpr c14
            obtain rfl := Option.some.inj H
            have p9 : 0 ≤ (x5_2 : Int) := of_decide_eq_true (Z8)
            have q9 : x5_2 < ((rdOf ByteArray.empty l0 x8_1).size : Int) := of_decide_eq_true (Z8)
            have hx9 := bt_at (rdOf ByteArray.empty l0 x8_1) x5_2
            replace p9 := eq_true p9
            replace q9 := eq_true q9
            have p11 : 0 ≤ (x5_2 : Int) := of_decide_eq_true (Z8)
            have q11 : x5_2 < ((rdOf ByteArray.empty l0 x8_1).size : Int) := of_decide_eq_true (Z8)
            have hx11 := bt_at (rdOf ByteArray.empty l0 x8_1) x5_2
            replace p11 := eq_true p11
            replace q11 := eq_true q11
            have p13 : 0 ≤ (x5_2 : Int) := of_decide_eq_true (Z8)
            have q13 : x5_2 < ((rdOf ByteArray.empty l0 x8_1).size : Int) := of_decide_eq_true (Z8)
            have hx13 := bt_at (rdOf ByteArray.empty l0 x8_1) x5_2
            replace p13 := eq_true p13
            replace q13 := eq_true q13
            go_wp2
            go_ret
            exact ⟨Z10, Z17⟩
           rw [if_neg c8] at H
           exact absurd H (by simp)
          rw [if_neg c7] at H
          have c7b0 : decide (x5_2 < ((rdOf ByteArray.empty l0 x8_1).size : Int)) = false := decide_eq_false c7
          clear c7
          have H' := Aside0.mk H
          clear H
          go_wp2
          go_roundg k2
          case measure => have := HK1.out; have := HK2.out; omega
          case rel => exact ⟨(wrap64 (x8_1 + 1)), (Z10), H', ⟨Z47⟩, Z17⟩
       rw [if_neg c6] at H
       have c6b0 : (((rdOf ByteArray.empty l0 x8_1).size : Int) == ((rdOf ByteArray.empty l0 0).size : Int)) = false := beq_eq_false_iff_ne.mpr c6
       have c6b1 : (((rdOf ByteArray.empty l0 x8_1).size : Int) != ((rdOf ByteArray.empty l0 0).size : Int)) = true := bne_iff_ne.mpr c6
       have c6b2 : ((rdOf ByteArray.empty l0 x8_1).size == (rdOf ByteArray.empty l0 0).size) = false := by first | simpa using c6 | (simp at c6 ⊢; omega)
       obtain rfl := Option.some.inj H
       have p439 : 0 ≤ (x8_1 : Int) := of_decide_eq_true (Z8)
       have q439 : x8_1 < (l0.length : Int) := of_decide_eq_true (Z8)
       obtain ⟨ad439, e439, hx439_0⟩ := Kd.at_string HR0.out x8_1 p439 q439
       cases e439
       replace p439 := eq_true p439
       replace q439 := eq_true q439
       have p440 : 0 ≤ (0 : Int) := (by omega)
       have q440 : 0 < (l0.length : Int) := of_decide_eq_true (Z8)
       obtain ⟨ad440, e440, hx440_0⟩ := Kd.at_string HR0.out 0 p440 q440
       obtain rfl : ad439 = ad440 := (by injection e440)
       have qi440 : (0 < l0.length) = True := eq_true (by omega)
       (try rw [show ((0 : Int)).toNat = 0 from rfl] at hx440_0)
       (try rw [Addr.add_zero'] at hx440_0)
       replace p440 := eq_true p440
       replace q440 := eq_true q440
       go_wp2
       go_ret
       exact ⟨Z10, Z17⟩
      rw [if_neg c5] at H
      exact absurd H (by simp)
     rw [if_neg c4] at H
     exact absurd H (by simp)
    rw [if_neg c3] at H
    exact absurd H (by simp)
   rw [if_neg c2] at H
   have c2b0 : decide (x8_1 < (l0.length : Int)) = false := decide_eq_false c2
   clear c2
   replace H := Option.bind_eq_some_iff.mp H
   obtain ⟨t436, A150, H⟩ := H
   (try dsimp only at H)
   have A15 := Aside0.mk A150
   clear A150
   by_cases c16 : t436 = true
   ·subst c16
    rw [if_pos rfl] at H
    by_cases c17 : 0 < (l0.length : Int)
    ·rw [if_pos c17] at H
     have c17b0 : decide (0 < (l0.length : Int)) = true := decide_eq_true c17
     have c17b1 : decide (0 < l0.length) = true := decide_eq_true (by omega)
     clear c17
     replace H := Option.bind_eq_some_iff.mp H
     obtain ⟨t438, A180, H⟩ := H
     replace H : (some t438) = some r := H
     have A18 := Aside0.mk A180
     clear A180
     obtain rfl := Option.some.inj H
     go_wp2_with (first | ((with_reducible refine gate_callee (f := 52) rfl ?_); refine gl_ 44 Try.func52 #[.int .i64 (l0.length : Int), .int .i64 1, .int .i64 60] ?_; (with_reducible refine (spec_l1In.calls (l0.length : Int) 1 60 true _ A15.out).mono ?_); rintro e w' ⟨rfl, ⟨nd, rfl⟩⟩; refine ⟨_, rfl, ?_⟩; have p437 : 0 ≤ (0 : Int) := (by omega); have q437 : 0 < (l0.length : Int) := of_decide_eq_true (Z8); obtain ⟨ad437, e437, hx437_0⟩ := Kd.at_string HR0.out 0 p437 q437; cases e437; have qi437 : (0 < l0.length) = True := eq_true (by omega); (try rw [show ((0 : Int)).toNat = 0 from rfl] at hx437_0); (try rw [Addr.add_zero'] at hx437_0); replace p437 := eq_true p437; replace q437 := eq_true q437) | (go_at_call 52; (with_reducible refine (spec_l1In.calls ((rdOf ByteArray.empty l0 0).size : Int) 1 20 t438 _ A18.out).mono ?_); rintro e w' ⟨rfl, ⟨nd, rfl⟩⟩))
     go_ret
     exact ⟨Z10, Z17⟩
    rw [if_neg c17] at H
    exact absurd H (by simp)
   replace c16 := Bool.eq_false_iff.mpr c16
   subst c16
   rw [if_neg (show ¬ (false = true) by decide)] at H
   obtain rfl := Option.some.inj H
   go_wp2_with (first | ((with_reducible refine gate_callee (f := 52) rfl ?_); refine gl_ 44 Try.func52 #[.int .i64 (l0.length : Int), .int .i64 1, .int .i64 60] ?_; (with_reducible refine (spec_l1In.calls (l0.length : Int) 1 60 false _ A15.out).mono ?_); rintro e w' ⟨rfl, ⟨nd, rfl⟩⟩; refine ⟨_, rfl, ?_⟩))
   go_ret
   exact ⟨Z10, Z17⟩

/-! ### spec_l1Most: function 91 -/
def spec_l1Most.f (a0 : Int) (a1 : Int) : Option (Int) := if a0 > a1 then (some a0) else (some a1)
set_option maxHeartbeats 8000000 in
set_option maxRecDepth 100000 in
theorem spec_l1Most.calls (a0 : Int) (a1 : Int) (r : Int) (w : World) (h : spec_l1Most.f a0 a1 = some r) :
  Calls Try.prog 91 #[.int .i64 a0, .int .i64 a1] w fun e w' => e = .returned (.int .i64 r) ∧ Drawn0 w w' := by
 have H : (if a0 > a1 then (some a0) else (some a1)) = some r := h
 clear h
 by_cases c3 : a0 > a1
 ·rw [if_pos c3] at H
  have c3b0 : decide (a1 < a0) = true := decide_eq_true c3
  clear c3
  obtain rfl := Option.some.inj H
  go_enter Try.func91, Try.ntmps91
  go_wp2
  go_ret
  exact ⟨Z10, Z17⟩
 rw [if_neg c3] at H
 have c3b0 : decide (a1 < a0) = false := decide_eq_false c3
 clear c3
 obtain rfl := Option.some.inj H
 go_enter Try.func91, Try.ntmps91
 go_wp2
 go_ret
 exact ⟨Z10, Z17⟩

/-! ### spec_l1Abs: function 53 -/
def spec_l1Abs.f (a0 : Int) : Option (Int) := (spec_l1Most.f a0 (wrap64 (-a0))).bind fun t441 => (some t441)
set_option maxHeartbeats 8000000 in
set_option maxRecDepth 100000 in
theorem spec_l1Abs.calls (a0 : Int) (r : Int) (w : World) (h : spec_l1Abs.f a0 = some r) :
  Calls Try.prog 53 #[.int .i64 a0] w fun e w' => e = .returned (.int .i64 r) ∧ Drawn0 w w' := by
 have H : ((spec_l1Most.f a0 (wrap64 (-a0))).bind fun t441 => (some t441)) = some r := h
 clear h
 replace H := Option.bind_eq_some_iff.mp H
 obtain ⟨t441, A20, H⟩ := H
 replace H : (some t441) = some r := H
 have A2 := Aside0.mk A20
 clear A20
 obtain rfl := Option.some.inj H
 go_enter Try.func53, Try.ntmps53
 go_wp2_with (first | ((with_reducible refine gate_callee (f := 91) rfl ?_); refine gl_ 6 Try.func91 #[.int .i64 a0, .int .i64 (wrap64 (-a0))] ?_; (with_reducible refine (spec_l1Most.calls a0 (wrap64 (-a0)) t441 _ A2.out).mono ?_); rintro e w' ⟨rfl, ⟨nd, rfl⟩⟩; refine ⟨_, rfl, ?_⟩))
 go_ret
 exact ⟨Z10, Z17⟩

/-! ### spec_StainScan: function 8 -/
mutual
def spec_StainScan.j0 : Nat → List ByteArray → Int → Int → Int → Bool → Option (List ByteArray × Bool)
 | 0, _, _, _, _, _ => none
 | k + 1, x0, x1, x2, x3, x40 => if x40 = true then (some (([] : List ByteArray), false)) else (spec_StainScan.l0 k x1 x2 x3 ([] : List ByteArray) x0 (x0.length : Int) 0)
def spec_StainScan.l0 : Nat → Int → Int → Int → List ByteArray → List ByteArray → Int → Int → Option (List ByteArray × Bool)
 | 0, _, _, _, _, _, _, _ => none
 | k + 1, x1, x2, x3, x10, x41, x42, x43 => if x43 < x42 then (if 0 ≤ x43 then (if x43 < (x41.length : Int) then (spec_StainScan.l1 k x1 x2 x3 x10 x43 (rdOf ByteArray.empty x41 x43) (⟨#[]⟩ : ByteArray) 0 x41 x42 x43) else (none)) else (none)) else (some (x10, true))
def spec_StainScan.l1 : Nat → Int → Int → Int → List ByteArray → Int → ByteArray → ByteArray → Int → List ByteArray → Int → Int → Option (List ByteArray × Bool)
 | 0, _, _, _, _, _, _, _, _, _, _, _ => none
 | k + 1, x1, x2, x3, x10, x11, x12, x13, x14, x41, x42, x43 => if x14 < (x12.size : Int) then ((spec_l1Abs.f (wrap64 (x11 - x1))).bind fun t451 => (if t451 < x3 then ((spec_l1Abs.f (wrap64 (x14 - x2))).bind fun t452 => (if t452 < x3 then (if x13.size + 1 ≤ 9223372036854775807 then (spec_StainScan.l1 k x1 x2 x3 x10 x11 x12 (x13 ++ (⟨#[63]⟩ : ByteArray)) (wrap64 (x14 + 1)) x41 x42 x43) else (none)) else (if 0 ≤ x14 then (if x14 ≤ (wrap64 (x14 + 1)) then (if (wrap64 (x14 + 1)) ≤ (x12.size : Int) then (if x13.size + (x12.extract (x14 : Int).toNat ((wrap64 (x14 + 1)) : Int).toNat).size ≤ 9223372036854775807 then (spec_StainScan.l1 k x1 x2 x3 x10 x11 x12 (x13 ++ (x12.extract (x14 : Int).toNat ((wrap64 (x14 + 1)) : Int).toNat)) (wrap64 (x14 + 1)) x41 x42 x43) else (none)) else (none)) else (none)) else (none)))) else (if 0 ≤ x14 then (if x14 ≤ (wrap64 (x14 + 1)) then (if (wrap64 (x14 + 1)) ≤ (x12.size : Int) then (if x13.size + (x12.extract (x14 : Int).toNat ((wrap64 (x14 + 1)) : Int).toNat).size ≤ 9223372036854775807 then (spec_StainScan.l1 k x1 x2 x3 x10 x11 x12 (x13 ++ (x12.extract (x14 : Int).toNat ((wrap64 (x14 + 1)) : Int).toNat)) (wrap64 (x14 + 1)) x41 x42 x43) else (none)) else (none)) else (none)) else (none)))) else (if x10.length < 8796093022208 then (spec_StainScan.l0 k x1 x2 x3 (x10 ++ [x13]) x41 x42 (wrap64 (x43 + 1))) else (none))
end
def spec_StainScan.f (k : Nat) (l0 : List ByteArray) (a1 : Int) (a2 : Int) (a3 : Int) : Option (List ByteArray × Bool) := (spec_scGood.f k l0).bind fun t442 => (if t442 = true then ((spec_l1In.f a1 0 (wrap64 ((l0.length : Int) - 1))).bind fun t443 => (if t443 = true then (if 0 < (l0.length : Int) then ((spec_l1In.f a2 0 (wrap64 (((rdOf ByteArray.empty l0 0).size : Int) - 1))).bind fun t445 => (if t445 = true then ((spec_l1In.f a3 1 10).bind fun t446 => (spec_StainScan.j0 k l0 a1 a2 a3 (!t446))) else (spec_StainScan.j0 k l0 a1 a2 a3 true))) else (none)) else (spec_StainScan.j0 k l0 a1 a2 a3 true))) else (spec_StainScan.j0 k l0 a1 a2 a3 true))
theorem spec_StainScan.mono_l : ∀ k, (∀ y0 y1 y2 y3 y4, LeO (spec_StainScan.j0 k y0 y1 y2 y3 y4) (spec_StainScan.j0 (k + 1) y0 y1 y2 y3 y4)) ∧ (∀ y0 y1 y2 y3 y4 y5 y6, LeO (spec_StainScan.l0 k y0 y1 y2 y3 y4 y5 y6) (spec_StainScan.l0 (k + 1) y0 y1 y2 y3 y4 y5 y6)) ∧ (∀ y0 y1 y2 y3 y4 y5 y6 y7 y8 y9 y10, LeO (spec_StainScan.l1 k y0 y1 y2 y3 y4 y5 y6 y7 y8 y9 y10) (spec_StainScan.l1 (k + 1) y0 y1 y2 y3 y4 y5 y6 y7 y8 y9 y10))
 | 0 => ⟨fun _ _ _ _ _ r h => by simp [spec_StainScan.j0] at h, fun _ _ _ _ _ _ _ r h => by simp [spec_StainScan.l0] at h, fun _ _ _ _ _ _ _ _ _ _ _ r h => by simp [spec_StainScan.l1] at h⟩
 | k + 1 => by
  obtain ⟨ih0, ih1, ih2⟩ := spec_StainScan.mono_l k
  refine ⟨?_, ?_, ?_⟩
  ·intro y0 y1 y2 y3 y4
   unfold spec_StainScan.j0
   exact mo10_
  ·intro y0 y1 y2 y3 y4 y5 y6
   unfold spec_StainScan.l0
   exact mo10_
  intro y0 y1 y2 y3 y4 y5 y6 y7 y8 y9 y10
  unfold spec_StainScan.l1
  exact mo10_
theorem spec_StainScan.mono : ∀ a0 a1 a2 a3 k, LeO (spec_StainScan.f k a0 a1 a2 a3) (spec_StainScan.f (k + 1) a0 a1 a2 a3) := by
 intro a0 a1 a2 a3 k
 obtain ⟨ih0, ih1, ih2⟩ := spec_StainScan.mono_l k
 unfold spec_StainScan.f
 exact mo10_
set_option maxHeartbeats 8000000 in
set_option maxRecDepth 100000 in
theorem spec_StainScan.calls (k : Nat) (A0 : Option Addr) (c0 : Nat) (l0 : List ByteArray) (a1 : Int) (a2 : Int) (a3 : Int) (r1 : List ByteArray) (r2 : Bool) (w : World) (hr0 : Kd.C Kd.string w A0 l0.length l0) (hc0 : l0.length ≤ c0) (h : spec_StainScan.f k l0 a1 a2 a3 = some (r1, r2)) :
  Calls Try.prog 8 #[.slice A0 l0.length c0, .int .i64 a1, .int .i64 a2, .int .i64 a3] w fun e w' => ∃ v0_ : Value, e = .returned (.tuple #[v0_, .bool r2]) ∧ Kd.R Kd.string 9 w' w.heap.size (fun _ => True) v0_ r1 ∧ Below w.heap.size w w' := by
 have HR0 := Aside0.mk hr0
 have HC0 := Aside0.mk hc0
 clear hr0 hc0
 have HB := Aside0.mk (Below.refl w.heap.size w)
 have H : ((spec_scGood.f k l0).bind fun t442 => (if t442 = true then ((spec_l1In.f a1 0 (wrap64 ((l0.length : Int) - 1))).bind fun t443 => (if t443 = true then (if 0 < (l0.length : Int) then ((spec_l1In.f a2 0 (wrap64 (((rdOf ByteArray.empty l0 0).size : Int) - 1))).bind fun t445 => (if t445 = true then ((spec_l1In.f a3 1 10).bind fun t446 => (spec_StainScan.j0 k l0 a1 a2 a3 (!t446))) else (spec_StainScan.j0 k l0 a1 a2 a3 true))) else (none)) else (spec_StainScan.j0 k l0 a1 a2 a3 true))) else (spec_StainScan.j0 k l0 a1 a2 a3 true))) = some (r1, r2) := h
 clear h
 have HC5 := Aside0.mk H
 clear H
 go_enter Try.func8, Try.ntmps8
 go_upto_region 1 with (fail)
 go_cut [40] (fun v40 wc => ∃ (kq : Nat) (x40_4 : Bool), v40 = .bool x40_4 ∧ Aside0 (spec_StainScan.j0 kq l0 a1 a2 a3 x40_4 = some (r1, r2)) ∧ Aside0 (kq ≤ k) ∧ Aside0 (Below w.heap.size w wc))
 case first =>
  have H := HC5.out
  clear HC5
  replace H := Option.bind_eq_some_iff.mp H
  obtain ⟨t442, A60, H⟩ := H
  (try dsimp only at H)
  have A6 := Aside0.mk A60
  clear A60
  by_cases c7 : t442 = true
  ·subst c7
   rw [if_pos rfl] at H
   replace H := Option.bind_eq_some_iff.mp H
   obtain ⟨t443, A80, H⟩ := H
   (try dsimp only at H)
   have A8 := Aside0.mk A80
   clear A80
   by_cases c9 : t443 = true
   ·subst c9
    rw [if_pos rfl] at H
    by_cases c10 : 0 < (l0.length : Int)
    ·rw [if_pos c10] at H
     have c10b0 : decide (0 < (l0.length : Int)) = true := decide_eq_true c10
     have c10b1 : decide (0 < l0.length) = true := decide_eq_true (by omega)
     clear c10
     (first | rw [c10b0] | (simp only [i64_w, i32_w]; rw [c10b0]) | skip)
     replace H := Option.bind_eq_some_iff.mp H
     obtain ⟨t445, A110, H⟩ := H
     (try dsimp only at H)
     have A11 := Aside0.mk A110
     clear A110
     by_cases c12 : t445 = true
     ·subst c12
      rw [if_pos rfl] at H
      replace H := Option.bind_eq_some_iff.mp H
      obtain ⟨t446, A130, H⟩ := H
      (try dsimp only at H)
      have A13 := Aside0.mk A130
      clear A130
      have H' := Aside0.mk H
      clear H
      go_wp2_with (first | ((with_reducible refine gate_callee (f := 51) rfl ?_); refine gl_ 16 Try.func51 #[.slice A0 l0.length c0] ?_; (with_reducible refine (spec_scGood.calls k _ _ l0 true _ ?_ ?_ A6.out).mono ?_); exact Z13 HR0.out; exact HC0.out; rintro e w' ⟨rfl, ⟨nd, rfl⟩⟩; refine ⟨_, rfl, ?_⟩) | (go_at_call 52; (with_reducible refine (spec_l1In.calls a1 0 (wrap64 ((l0.length : Int) - 1)) true _ A8.out).mono ?_); rintro e w' ⟨rfl, ⟨nd, rfl⟩⟩; have p444 : 0 ≤ (0 : Int) := (by omega); have q444 : 0 < (l0.length : Int) := of_decide_eq_true (Z8); obtain ⟨ad444, e444, hx444_0⟩ := Kd.at_string HR0.out 0 p444 q444; cases e444; have qi444 : (0 < l0.length) = True := eq_true (by omega); (try rw [show ((0 : Int)).toNat = 0 from rfl] at hx444_0); (try rw [Addr.add_zero'] at hx444_0); replace hx444_0 := (HB.out.cell (World.block_lt_of_cell? w _ hx444_0)).trans hx444_0; replace p444 := eq_true p444; replace q444 := eq_true q444) | (go_at_call 52; (with_reducible refine (spec_l1In.calls a2 0 (wrap64 (((rdOf ByteArray.empty l0 0).size : Int) - 1)) true _ A11.out).mono ?_); rintro e w' ⟨rfl, ⟨nd, rfl⟩⟩) | (go_at_call 52; (with_reducible refine (spec_l1In.calls a3 1 10 t446 _ A13.out).mono ?_); rintro e w' ⟨rfl, ⟨nd, rfl⟩⟩))
      go_meet
      case rel => exact ⟨_, (!t446), (Z10), H', ⟨Z65⟩, ⟨Z2⟩⟩
     replace c12 := Bool.eq_false_iff.mpr c12
     subst c12
     rw [if_neg (show ¬ (false = true) by decide)] at H
     have H' := Aside0.mk H
     clear H
     go_wp2_with (first | ((with_reducible refine gate_callee (f := 51) rfl ?_); refine gl_ 16 Try.func51 #[.slice A0 l0.length c0] ?_; (with_reducible refine (spec_scGood.calls k _ _ l0 true _ ?_ ?_ A6.out).mono ?_); exact Z13 HR0.out; exact HC0.out; rintro e w' ⟨rfl, ⟨nd, rfl⟩⟩; refine ⟨_, rfl, ?_⟩) | (go_at_call 52; (with_reducible refine (spec_l1In.calls a1 0 (wrap64 ((l0.length : Int) - 1)) true _ A8.out).mono ?_); rintro e w' ⟨rfl, ⟨nd, rfl⟩⟩; have p444 : 0 ≤ (0 : Int) := (by omega); have q444 : 0 < (l0.length : Int) := of_decide_eq_true (Z8); obtain ⟨ad444, e444, hx444_0⟩ := Kd.at_string HR0.out 0 p444 q444; cases e444; have qi444 : (0 < l0.length) = True := eq_true (by omega); (try rw [show ((0 : Int)).toNat = 0 from rfl] at hx444_0); (try rw [Addr.add_zero'] at hx444_0); replace hx444_0 := (HB.out.cell (World.block_lt_of_cell? w _ hx444_0)).trans hx444_0; replace p444 := eq_true p444; replace q444 := eq_true q444) | (go_at_call 52; (with_reducible refine (spec_l1In.calls a2 0 (wrap64 (((rdOf ByteArray.empty l0 0).size : Int) - 1)) false _ A11.out).mono ?_); rintro e w' ⟨rfl, ⟨nd, rfl⟩⟩))
     go_meet
     case rel => exact ⟨_, (true), (Z10), H', ⟨Z65⟩, ⟨Z2⟩⟩
    rw [if_neg c10] at H
    exact absurd H (by simp)
   replace c9 := Bool.eq_false_iff.mpr c9
   subst c9
   rw [if_neg (show ¬ (false = true) by decide)] at H
   have H' := Aside0.mk H
   clear H
   go_wp2_with (first | ((with_reducible refine gate_callee (f := 51) rfl ?_); refine gl_ 16 Try.func51 #[.slice A0 l0.length c0] ?_; (with_reducible refine (spec_scGood.calls k _ _ l0 true _ ?_ ?_ A6.out).mono ?_); exact Z13 HR0.out; exact HC0.out; rintro e w' ⟨rfl, ⟨nd, rfl⟩⟩; refine ⟨_, rfl, ?_⟩) | (go_at_call 52; (with_reducible refine (spec_l1In.calls a1 0 (wrap64 ((l0.length : Int) - 1)) false _ A8.out).mono ?_); rintro e w' ⟨rfl, ⟨nd, rfl⟩⟩))
   go_meet
   case rel => exact ⟨_, (true), (Z10), H', ⟨Z65⟩, ⟨Z2⟩⟩
  replace c7 := Bool.eq_false_iff.mpr c7
  subst c7
  rw [if_neg (show ¬ (false = true) by decide)] at H
  have H' := Aside0.mk H
  clear H
  go_wp2_with (first | ((with_reducible refine gate_callee (f := 51) rfl ?_); refine gl_ 16 Try.func51 #[.slice A0 l0.length c0] ?_; (with_reducible refine (spec_scGood.calls k _ _ l0 false _ ?_ ?_ A6.out).mono ?_); exact Z13 HR0.out; exact HC0.out; rintro e w' ⟨rfl, ⟨nd, rfl⟩⟩; refine ⟨_, rfl, ?_⟩))
  go_meet
  case rel => exact ⟨_, (true), (Z10), H', ⟨Z65⟩, ⟨Z2⟩⟩
 case rest =>
  clear HC5
  (try clear c1); (try clear p2); (try clear p4); (try clear q4); (try clear hx4); (try clear qi4); (try clear c5); (try clear p6); (try clear c7); (try clear c8); (try clear c9); (try clear c10); (try clear c10b0); (try clear c10b1); (try clear c12); (try clear hx444_0); (try clear p444); (try clear q444)
  obtain ⟨kq, x40_4, rfl, HA, HJ4, HB⟩ := hcut
  cases kq with
  | zero => exact absurd HA.out (by simp [spec_StainScan.j0])
  | succ kj4 =>
   have H := HA.out
   clear HA
   simp only [spec_StainScan.j0] at H
   by_cases c14 : x40_4 = true
   ·subst c14
    rw [if_pos rfl] at H
    simp only [Option.some.injEq, Prod.mk.injEq] at H
    obtain ⟨rfl, rfl⟩ := H
    go_wp2
    go_ret2
    exact ⟨_, Z11, Z21, Z2⟩
   replace c14 := Bool.eq_false_iff.mpr c14
   subst c14
   rw [if_neg (show ¬ (false = true) by decide)] at H
   have H' := Aside0.mk H
   clear H
   go_wp2
   go_loopg [10, 43] kj4 (fun kq v10 v43 w' => ∃ (x10_2 : List ByteArray) (x43_2 : Int), v43 = .int .i64 x43_2 ∧ Aside0 (spec_StainScan.l0 kq a1 a2 a3 x10_2 l0 (l0.length : Int) x43_2 = some (r1, r2)) ∧ Aside0 (kq ≤ kj4) ∧ Aside0 (Kd.R Kd.string 9 w' w.heap.size (fun _ => True) v10 x10_2) ∧ Aside0 (Below w.heap.size w w'))
   case atStart => exact ⟨(([] : List ByteArray)), (0), (Z10), H', ⟨Nat.le_refl _⟩, ⟨Z21⟩, ⟨Z2⟩⟩
   case round =>
    clear H'
    (try clear c14)
    obtain ⟨x10_2, x43_2, rfl, HA, HK2, HO_10, HB⟩ := hrel
    cases gk with
    | zero => exact absurd HA.out (by simp [spec_StainScan.l0])
    | succ k2 =>
     have H := HA.out
     clear HA
     simp only [spec_StainScan.l0] at H
     by_cases c15 : x43_2 < (l0.length : Int)
     ·rw [if_pos c15] at H
      have c15b0 : decide (x43_2 < (l0.length : Int)) = true := decide_eq_true c15
      clear c15
      by_cases c16 : 0 ≤ x43_2
      ·rw [if_pos c16] at H
       have c16b0 : decide (0 ≤ x43_2) = true := decide_eq_true c16
       clear c16
       by_cases c17 : x43_2 < (l0.length : Int)
       ·rw [if_pos c17] at H
        have c17b0 : decide (x43_2 < (l0.length : Int)) = true := decide_eq_true c17
        clear c17
        have H' := Aside0.mk H
        clear H
        have p447 : 0 ≤ (x43_2 : Int) := of_decide_eq_true (Z8)
        have q447 : x43_2 < (l0.length : Int) := of_decide_eq_true (Z8)
        obtain ⟨ad447, e447, hx447_0⟩ := Kd.at_string HR0.out x43_2 p447 q447
        cases e447
        replace hx447_0 := (HB.out.cell (World.block_lt_of_cell? w _ hx447_0)).trans hx447_0
        replace p447 := eq_true p447
        replace q447 := eq_true q447
        go_wp2
        go_loopg [13, 14] k2 (fun kq v13 v14 w' => ∃ (x13_3 : ByteArray) (x14_3 : Int), v13 = .string x13_3 ∧ v14 = .int .i64 x14_3 ∧ Aside0 (spec_StainScan.l1 kq a1 a2 a3 x10_2 x43_2 (rdOf ByteArray.empty l0 x43_2) x13_3 x14_3 l0 (l0.length : Int) x43_2 = some (r1, r2)) ∧ Aside0 (kq ≤ k2) ∧ Aside0 (Kd.R Kd.string 9 w' w.heap.size (fun _ => True) u10 x10_2) ∧ Aside0 (Below w.heap.size w w'))
        case atStart => exact ⟨((⟨#[]⟩ : ByteArray)), (0), (Z10), (Z10), H', ⟨Nat.le_refl _⟩, ⟨Z1 HO_10.out⟩, ⟨Z2⟩⟩
        case round =>
         clear H'
         (try clear c15); (try clear c15b0); (try clear c16); (try clear c16b0); (try clear c17); (try clear c17b0); (try clear hx447_0); (try clear p447); (try clear q447)
         obtain ⟨x13_3, x14_3, rfl, rfl, HA, HK3, HO_10, HB⟩ := hrel
         cases gk with
         | zero => exact absurd HA.out (by simp [spec_StainScan.l1])
         | succ k3 =>
          have H := HA.out
          clear HA
          simp only [spec_StainScan.l1] at H
          by_cases c18 : x14_3 < ((rdOf ByteArray.empty l0 x43_2).size : Int)
          ·rw [if_pos c18] at H
           have c18b0 : decide (x14_3 < ((rdOf ByteArray.empty l0 x43_2).size : Int)) = true := decide_eq_true c18
           clear c18
           replace H := Option.bind_eq_some_iff.mp H
           obtain ⟨t451, A190, H⟩ := H
           (try dsimp only at H)
           have A19 := Aside0.mk A190
           clear A190
           by_cases c20 : t451 < a3
           ·rw [if_pos c20] at H
            have c20b0 : decide (t451 < a3) = true := decide_eq_true c20
            clear c20
            replace H := Option.bind_eq_some_iff.mp H
            obtain ⟨t452, A210, H⟩ := H
            (try dsimp only at H)
            have A21 := Aside0.mk A210
            clear A210
            by_cases c22 : t452 < a3
            ·rw [if_pos c22] at H
             have c22b0 : decide (t452 < a3) = true := decide_eq_true c22
             clear c22
             by_cases c23 : x13_3.size + 1 ≤ 9223372036854775807
             ·rw [if_pos c23] at H
              have c23b0 := eq_true c23
              have c23b1 : decide (x13_3.size + 1 ≤ 9223372036854775807) = true := decide_eq_true c23
              try have c23b2 : (9223372036854775807 < x13_3.size + 1) = False := eq_false (Nat.not_lt.2 c23)
              have H' := Aside0.mk H
              clear H
              go_wp2_with (first | ((with_reducible refine gate_callee (f := 53) rfl ?_); refine gl_ 57 Try.func53 #[.int .i64 (wrap64 (x43_2 - a1))] ?_; (with_reducible refine (spec_l1Abs.calls (wrap64 (x43_2 - a1)) t451 _ A19.out).mono ?_); rintro e w' ⟨rfl, ⟨nd, rfl⟩⟩; refine ⟨_, rfl, ?_⟩) | (go_at_call 53; (with_reducible refine (spec_l1Abs.calls (wrap64 (x14_3 - a2)) t452 _ A21.out).mono ?_); rintro e w' ⟨rfl, ⟨nd, rfl⟩⟩))
              go_roundg k3
              case measure => have := HJ4.out; have := HK2.out; have := HK3.out; omega
              case rel => exact ⟨(x13_3 ++ (⟨#[63]⟩ : ByteArray)), (wrap64 (x14_3 + 1)), (Z10), (Z10), H', ⟨Z84 HJ4.out⟩, ⟨Z1 HO_10.out⟩, ⟨Z2⟩⟩
             rw [if_neg c23] at H
             exact absurd H (by simp)
            rw [if_neg c22] at H
            have c22b0 : decide (t452 < a3) = false := decide_eq_false c22
            clear c22
            by_cases c24 : 0 ≤ x14_3
            ·rw [if_pos c24] at H
             have c24b0 := eq_true c24
             have c24b1 : decide (0 ≤ x14_3) = true := decide_eq_true c24
             clear c24
             by_cases c25 : x14_3 ≤ (wrap64 (x14_3 + 1))
             ·rw [if_pos c25] at H
              have c25b0 := eq_true c25
              have c25b1 : decide (x14_3 ≤ (wrap64 (x14_3 + 1))) = true := decide_eq_true c25
              by_cases c26 : (wrap64 (x14_3 + 1)) ≤ ((rdOf ByteArray.empty l0 x43_2).size : Int)
              ·rw [if_pos c26] at H
               have c26b0 := eq_true c26
               have c26b1 : decide ((wrap64 (x14_3 + 1)) ≤ ((rdOf ByteArray.empty l0 x43_2).size : Int)) = true := decide_eq_true c26
               by_cases c27 : x13_3.size + ((rdOf ByteArray.empty l0 x43_2).extract (x14_3 : Int).toNat ((wrap64 (x14_3 + 1)) : Int).toNat).size ≤ 9223372036854775807
               ·rw [if_pos c27] at H
                have c27b0 := eq_true c27
                have c27b1 : decide (x13_3.size + ((rdOf ByteArray.empty l0 x43_2).extract (x14_3 : Int).toNat ((wrap64 (x14_3 + 1)) : Int).toNat).size ≤ 9223372036854775807) = true := decide_eq_true c27
                try have c27b2 : (9223372036854775807 < x13_3.size + ((rdOf ByteArray.empty l0 x43_2).extract (x14_3 : Int).toNat ((wrap64 (x14_3 + 1)) : Int).toNat).size) = False := eq_false (Nat.not_lt.2 c27)
                have H' := Aside0.mk H
                clear H
                go_wp2_with (first | ((with_reducible refine gate_callee (f := 53) rfl ?_); refine gl_ 57 Try.func53 #[.int .i64 (wrap64 (x43_2 - a1))] ?_; (with_reducible refine (spec_l1Abs.calls (wrap64 (x43_2 - a1)) t451 _ A19.out).mono ?_); rintro e w' ⟨rfl, ⟨nd, rfl⟩⟩; refine ⟨_, rfl, ?_⟩) | (go_at_call 53; (with_reducible refine (spec_l1Abs.calls (wrap64 (x14_3 - a2)) t452 _ A21.out).mono ?_); rintro e w' ⟨rfl, ⟨nd, rfl⟩⟩))
                go_roundg k3
                case measure => have := HJ4.out; have := HK2.out; have := HK3.out; omega
                case rel => exact ⟨(x13_3 ++ ((rdOf ByteArray.empty l0 x43_2).extract (x14_3 : Int).toNat ((wrap64 (x14_3 + 1)) : Int).toNat)), (wrap64 (x14_3 + 1)), (Z10), (Z10), H', ⟨Z84 HJ4.out⟩, ⟨Z1 HO_10.out⟩, ⟨Z2⟩⟩
               rw [if_neg c27] at H
               exact absurd H (by simp)
              rw [if_neg c26] at H
              exact absurd H (by simp)
             rw [if_neg c25] at H
             exact absurd H (by simp)
            rw [if_neg c24] at H
            exact absurd H (by simp)
           rw [if_neg c20] at H
           have c20b0 : decide (t451 < a3) = false := decide_eq_false c20
           clear c20
           by_cases c28 : 0 ≤ x14_3
           ·rw [if_pos c28] at H
            have c28b0 := eq_true c28
            have c28b1 : decide (0 ≤ x14_3) = true := decide_eq_true c28
            clear c28
            by_cases c29 : x14_3 ≤ (wrap64 (x14_3 + 1))
            ·rw [if_pos c29] at H
             have c29b0 := eq_true c29
             have c29b1 : decide (x14_3 ≤ (wrap64 (x14_3 + 1))) = true := decide_eq_true c29
             by_cases c30 : (wrap64 (x14_3 + 1)) ≤ ((rdOf ByteArray.empty l0 x43_2).size : Int)
             ·rw [if_pos c30] at H
              have c30b0 := eq_true c30
              have c30b1 : decide ((wrap64 (x14_3 + 1)) ≤ ((rdOf ByteArray.empty l0 x43_2).size : Int)) = true := decide_eq_true c30
              by_cases c31 : x13_3.size + ((rdOf ByteArray.empty l0 x43_2).extract (x14_3 : Int).toNat ((wrap64 (x14_3 + 1)) : Int).toNat).size ≤ 9223372036854775807
              ·rw [if_pos c31] at H
               have c31b0 := eq_true c31
               have c31b1 : decide (x13_3.size + ((rdOf ByteArray.empty l0 x43_2).extract (x14_3 : Int).toNat ((wrap64 (x14_3 + 1)) : Int).toNat).size ≤ 9223372036854775807) = true := decide_eq_true c31
               try have c31b2 : (9223372036854775807 < x13_3.size + ((rdOf ByteArray.empty l0 x43_2).extract (x14_3 : Int).toNat ((wrap64 (x14_3 + 1)) : Int).toNat).size) = False := eq_false (Nat.not_lt.2 c31)
               have H' := Aside0.mk H
               clear H
               go_wp2_with (first | ((with_reducible refine gate_callee (f := 53) rfl ?_); refine gl_ 57 Try.func53 #[.int .i64 (wrap64 (x43_2 - a1))] ?_; (with_reducible refine (spec_l1Abs.calls (wrap64 (x43_2 - a1)) t451 _ A19.out).mono ?_); rintro e w' ⟨rfl, ⟨nd, rfl⟩⟩; refine ⟨_, rfl, ?_⟩))
               go_roundg k3
               case measure => have := HJ4.out; have := HK2.out; have := HK3.out; omega
               case rel => exact ⟨(x13_3 ++ ((rdOf ByteArray.empty l0 x43_2).extract (x14_3 : Int).toNat ((wrap64 (x14_3 + 1)) : Int).toNat)), (wrap64 (x14_3 + 1)), (Z10), (Z10), H', ⟨Z84 HJ4.out⟩, ⟨Z1 HO_10.out⟩, ⟨Z2⟩⟩
              rw [if_neg c31] at H
              exact absurd H (by simp)
             rw [if_neg c30] at H
             exact absurd H (by simp)
            rw [if_neg c29] at H
            exact absurd H (by simp)
           rw [if_neg c28] at H
           exact absurd H (by simp)
          rw [if_neg c18] at H
          have c18b0 : decide (x14_3 < ((rdOf ByteArray.empty l0 x43_2).size : Int)) = false := decide_eq_false c18
          clear c18
          by_cases c32 : x10_2.length < 8796093022208
          ·rw [if_pos c32] at H
           have LMc32 := Aside0.mk c32
           clear c32
           obtain ⟨y448, hy448⟩ : ∃ y_ : List ByteArray, y_ = (x10_2 ++ [x13_3]) := ⟨_, rfl⟩
           replace H : (spec_StainScan.l0 k3 a1 a2 a3 y448 l0 (l0.length : Int) (wrap64 (x43_2 + 1))) = some (r1, r2) := by first | (rw [hy448]; with_reducible exact H) | (have H2_ := (Option.bind_some _ _).symm.trans H; rw [hy448]; with_reducible exact H2_) | (have H2_ := (Option.bind_some _ _).symm.trans H; with_reducible exact H2_) | with_reducible exact H | (rw [hy448]; exact H) | exact H
           have Ny448 := Aside0.mk hy448
           clear hy448
           have H' := Aside0.mk H
           clear H
           go_wp2_with (first | ((with_reducible refine gate_builtin (b := .append) (xs := #[.tmp 77, .tmp 79]) rfl ?_); (try (refine gate_guard (by rfl) ?_; dsimp only)); at_builtin; refine Kd.R_append Kd.string (w0 := w) w.heap.size rfl (.tmp 77) (.tmp 79) 24 9 (.string ⟨#[]⟩) 16 rfl Try.underlying24 info9 rfl (by decide) (by omega) u10 x10_2 x13_3 [.string x13_3] (fun _ => True) (fun _ => False) rfl rfl ?aP (fun _ hk => hk.elim) ?aF ?aO ?aB ?aS ?aL ?_; (case aP => exact rfl); (case aB => exact Z2); (case aF => exact (fun _ _ => trivial)); (case aO => exact Z1 HO_10.out); (case aS => exact (below_size (Z2))); (case aL => have := LMc32.out; omega); intro v449 w33 ho hb hg hat; rw [← Ny448.out] at ho; refine k2_ (hb) (ho) ?_; clear HB HO_10; intro HB HO450; clear ho hb hg hat))
           go_roundg k3
           case measure => have := HJ4.out; have := HK2.out; have := HK3.out; omega
           case rel => exact ⟨(y448), (wrap64 (x43_2 + 1)), (Z10), H', ⟨Z84 HJ4.out⟩, ⟨Z1 HO450.out⟩, ⟨Z2⟩⟩
          rw [if_neg c32] at H
          exact absurd H (by simp)
       rw [if_neg c17] at H
       exact absurd H (by simp)
      rw [if_neg c16] at H
      exact absurd H (by simp)
     rw [if_neg c15] at H
     have c15b0 : decide (x43_2 < (l0.length : Int)) = false := decide_eq_false c15
     clear c15
     simp only [Option.some.injEq, Prod.mk.injEq] at H
     obtain ⟨rfl, rfl⟩ := H
     go_wp2
     go_ret2
     exact ⟨_, Z11, Z1 HO_10.out, Z2⟩

end Go.Proofs.Ytmnnmddfmmaohaa.PFnStains
