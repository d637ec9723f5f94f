-- written by a program of this session: the kit's print, with outer functions of the session's own (wip/ext)
import Derived.Test.YtmnnmddfmmaohaaPFnStainsx0
import Derived.Test.YtmnnmddfmmaohaaPFnStainsx6
namespace Go.Proofs.Ytmnnmddfmmaohaa.PFnStains
open Go.RowKit Go.Proofs.YtmnnmddfmmaohaaW.PrintWords Go.Proofs.YtmnnmddfmmaohaaW.PrintLast Go.Proofs.YtmnnmddfmmaohaaW.PrintMore
attribute [local go_sem] max2_int min2_int max_two min_two max_three min_three max_four min_four   -- for this text's walks alone
set_option linter.unusedVariables false
set_option linter.unusedSimpArgs false
theorem mo7_ {p : Prop} (h : p := by repeat' first | (with_reducible first | apply ih0 | apply ih0 | apply ih1 | apply ih1 | apply ih2 | apply ih2 | apply impl_isGridOf.mono | apply impl_isGridOf.mono | exact LeO.refl _ | exact LeO.none _ | refine LeO.ite ?_ ?_ | refine LeO.bind ?_ (fun _ => ?_)) | exact LeO.none _ | refine LeO.ite ?_ ?_ | refine LeO.bind ?_ (fun _ => ?_)) : p := h

/-! ### impl_isGridOf: function 90 -/
mutual
def impl_isGridOf.j0 : Nat → List ByteArray → ByteArray → Bool → Option (Bool)
 | 0, _, _, _ => none
 | k + 1, x0, x4, x39 => if x39 = true then (some false) else (impl_isGridOf.l0 k x0 x4 x0 (x0.length : Int) 0)
def impl_isGridOf.l0 : Nat → List ByteArray → ByteArray → List ByteArray → Int → Int → Option (Bool)
 | 0, _, _, _, _, _ => none
 | k + 1, x0, x4, x40, x41, x42 => if x42 < x41 then (if 0 ≤ x42 then (if x42 < (x40.length : Int) then (if 0 < (x0.length : Int) then (if ((rdOf ByteArray.empty x40 x42).size : Int) = ((rdOf ByteArray.empty x0 0).size : Int) then (impl_isGridOf.l1 k x0 x4 (rdOf ByteArray.empty x40 x42) 0 x40 x41 x42) else (some false)) else (none)) else (none)) else (none)) else (some true)
def impl_isGridOf.l1 : Nat → List ByteArray → ByteArray → ByteArray → Int → List ByteArray → Int → Int → Option (Bool)
 | 0, _, _, _, _, _, _, _ => none
 | k + 1, x0, x4, x12, x13, x40, x41, x42 => if x13 < (x12.size : Int) then (if 0 ≤ x13 then ((strings_IndexByte.f x4 (bt x12 x13)).bind fun t416 => (if t416 < 0 then (some false) else (impl_isGridOf.l1 k x0 x4 x12 (wrap64 (x13 + 1)) x40 x41 x42))) else (none)) else (impl_isGridOf.l0 k x0 x4 x40 x41 (wrap64 (x42 + 1)))
end
def impl_isGridOf.f (k : Nat) (l0 : List ByteArray) (a1 : Int) (a2 : Int) (a3 : Int) (a4 : ByteArray) : Option (Bool) := if (l0.length : Int) < a1 then (impl_isGridOf.j0 k l0 a4 true) else (if (l0.length : Int) > a2 then (impl_isGridOf.j0 k l0 a4 true) else (if 0 < (l0.length : Int) then (if ((rdOf ByteArray.empty l0 0).size : Int) < a1 then (impl_isGridOf.j0 k l0 a4 true) else (impl_isGridOf.j0 k l0 a4 (decide (((rdOf ByteArray.empty l0 0).size : Int) > a3)))) else (none)))
theorem impl_isGridOf.mono_l : ∀ k, (∀ y0 y1 y2, LeO (impl_isGridOf.j0 k y0 y1 y2) (impl_isGridOf.j0 (k + 1) y0 y1 y2)) ∧ (∀ y0 y1 y2 y3 y4, LeO (impl_isGridOf.l0 k y0 y1 y2 y3 y4) (impl_isGridOf.l0 (k + 1) y0 y1 y2 y3 y4)) ∧ (∀ y0 y1 y2 y3 y4 y5 y6, LeO (impl_isGridOf.l1 k y0 y1 y2 y3 y4 y5 y6) (impl_isGridOf.l1 (k + 1) y0 y1 y2 y3 y4 y5 y6))
 | 0 => ⟨fun _ _ _ r h => by simp [impl_isGridOf.j0] at h, fun _ _ _ _ _ r h => by simp [impl_isGridOf.l0] at h, fun _ _ _ _ _ _ _ r h => by simp [impl_isGridOf.l1] at h⟩
 | k + 1 => by
  obtain ⟨ih0, ih1, ih2⟩ := impl_isGridOf.mono_l k
  refine ⟨?_, ?_, ?_⟩
  ·intro y0 y1 y2
   unfold impl_isGridOf.j0
   exact mo7_
  ·intro y0 y1 y2 y3 y4
   unfold impl_isGridOf.l0
   exact mo7_
  intro y0 y1 y2 y3 y4 y5 y6
  unfold impl_isGridOf.l1
  exact mo7_
theorem impl_isGridOf.mono : ∀ a0 a1 a2 a3 a4 k, LeO (impl_isGridOf.f k a0 a1 a2 a3 a4) (impl_isGridOf.f (k + 1) a0 a1 a2 a3 a4) := by
 intro a0 a1 a2 a3 a4 k
 obtain ⟨ih0, ih1, ih2⟩ := impl_isGridOf.mono_l k
 unfold impl_isGridOf.f
 exact mo7_
set_option maxHeartbeats 8000000 in
set_option maxRecDepth 100000 in
theorem impl_isGridOf.calls (k : Nat) (A0 : Option Addr) (c0 : Nat) (l0 : List ByteArray) (a1 : Int) (a2 : Int) (a3 : Int) (a4 : ByteArray) (r : Bool) (w : World) (hr0 : Kd.C Kd.string w A0 l0.length l0) (hc0 : l0.length ≤ c0) (h : impl_isGridOf.f k l0 a1 a2 a3 a4 = some r) :
  Calls Try.prog 90 #[.slice A0 l0.length c0, .int .i64 a1, .int .i64 a2, .int .i64 a3, .string a4] w fun e w' => e = .returned (.bool r) ∧ Drawn0 w w' := by
 have HR0 := Aside0.mk hr0
 have HC0 := Aside0.mk hc0
 clear hr0 hc0
 have H : (if (l0.length : Int) < a1 then (impl_isGridOf.j0 k l0 a4 true) else (if (l0.length : Int) > a2 then (impl_isGridOf.j0 k l0 a4 true) else (if 0 < (l0.length : Int) then (if ((rdOf ByteArray.empty l0 0).size : Int) < a1 then (impl_isGridOf.j0 k l0 a4 true) else (impl_isGridOf.j0 k l0 a4 (decide (((rdOf ByteArray.empty l0 0).size : Int) > a3)))) else (none)))) = some r := h
 clear h
 have HC6 := Aside0.mk H
 clear H
 go_enter Try.func90, Try.ntmps90
 go_upto_region 1 with (fail)
 go_cut [39] (fun v39 wc => ∃ (kq : Nat) (x39_5 : Bool), v39 = .bool x39_5 ∧ Aside0 (impl_isGridOf.j0 kq l0 a4 x39_5 = some r) ∧ Aside0 (kq ≤ k) ∧ Drawn0 w wc)
 case first =>
  have H := HC6.out
  clear HC6
  by_cases c7 : (l0.length : Int) < a1
  ·rw [if_pos c7] at H
   have c7b0 : decide ((l0.length : Int) < a1) = true := decide_eq_true c7
   clear c7
   (first | rw [c7b0] | (simp only [i64_w, i32_w]; rw [c7b0]) | skip)
   have H' := Aside0.mk H
   clear H
   go_wp2
   go_meet
   case rel => exact ⟨_, (true), (Z10), H', ⟨Z65⟩, Z17⟩
  rw [if_neg c7] at H
  have c7b0 : decide ((l0.length : Int) < a1) = false := decide_eq_false c7
  clear c7
  (first | rw [c7b0] | (simp only [i64_w, i32_w]; rw [c7b0]) | skip)
  by_cases c8 : (l0.length : Int) > a2
  ·rw [if_pos c8] at H
   have c8b0 : decide (a2 < (l0.length : Int)) = true := decide_eq_true c8
   clear c8
   have H' := Aside0.mk H
   clear H
   go_wp2
   go_meet
   case rel => exact ⟨_, (true), (Z10), H', ⟨Z65⟩, Z17⟩
  rw [if_neg c8] at H
  have c8b0 : decide (a2 < (l0.length : Int)) = false := decide_eq_false c8
  clear c8
  by_cases c9 : 0 < (l0.length : Int)
  ·rw [if_pos c9] at H
   have c9b0 : decide (0 < (l0.length : Int)) = true := decide_eq_true c9
   have c9b1 : decide (0 < l0.length) = true := decide_eq_true (by omega)
   clear c9
   by_cases c10 : ((rdOf ByteArray.empty l0 0).size : Int) < a1
   ·rw [if_pos c10] at H
    have c10b0 : decide (((rdOf ByteArray.empty l0 0).size : Int) < a1) = true := decide_eq_true c10
    clear c10
    have H' := Aside0.mk H
    clear H
    have p412 : 0 ≤ (0 : Int) := (by omega)
    have q412 : 0 < (l0.length : Int) := of_decide_eq_true (Z8)
    obtain ⟨ad412, e412, hx412_0⟩ := Kd.at_string HR0.out 0 p412 q412
    cases e412
    have qi412 : (0 < l0.length) = True := eq_true (by omega)
    (try rw [show ((0 : Int)).toNat = 0 from rfl] at hx412_0)
    (try rw [Addr.add_zero'] at hx412_0)
    replace p412 := eq_true p412
    replace q412 := eq_true q412
    go_wp2
    go_meet
    case rel => exact ⟨_, (true), (Z10), H', ⟨Z65⟩, Z17⟩
   rw [if_neg c10] at H
   have c10b0 : decide (((rdOf ByteArray.empty l0 0).size : Int) < a1) = false := decide_eq_false c10
   clear c10
   have H' := Aside0.mk H
   clear H
   have p412 : 0 ≤ (0 : Int) := (by omega)
   have q412 : 0 < (l0.length : Int) := of_decide_eq_true (Z8)
   obtain ⟨ad412, e412, hx412_0⟩ := Kd.at_string HR0.out 0 p412 q412
   cases e412
   have qi412 : (0 < l0.length) = True := eq_true (by omega)
   (try rw [show ((0 : Int)).toNat = 0 from rfl] at hx412_0)
   (try rw [Addr.add_zero'] at hx412_0)
   replace p412 := eq_true p412
   replace q412 := eq_true q412
   have p413 : 0 ≤ (0 : Int) := (by omega)
   have q413 : 0 < (l0.length : Int) := of_decide_eq_true (Z8)
   obtain ⟨ad413, e413, hx413_0⟩ := Kd.at_string HR0.out 0 p413 q413
   obtain rfl : ad412 = ad413 := (by injection e413)
   have qi413 : (0 < l0.length) = True := eq_true (by omega)
   (try rw [show ((0 : Int)).toNat = 0 from rfl] at hx413_0)
   (try rw [Addr.add_zero'] at hx413_0)
   replace p413 := eq_true p413
   replace q413 := eq_true q413
   go_wp2
   go_meet
   case rel => exact ⟨_, (decide (((rdOf ByteArray.empty l0 0).size : Int) > a3)), (Z10), H', ⟨Z65⟩, Z17⟩
  rw [if_neg c9] at H
  exact absurd H (by simp)
 case rest =>
  clear HC6
  (try clear c1); (try clear p2); (try clear p4); (try clear q4); (try clear hx4); (try clear qi4); (try clear c7); (try clear c7b0); (try clear c8); (try clear c8b0); (try clear c9); (try clear c9b0); (try clear c9b1); (try clear c10); (try clear c10b0); (try clear hx412_0); (try clear hx413_0); (try clear p412); (try clear p413); (try clear q412); (try clear q413)
  obtain ⟨kq, x39_5, rfl, HA, HJ5, ⟨mc5, rfl⟩⟩ := hcut
  cases kq with
  | zero => exact absurd HA.out (by simp [impl_isGridOf.j0])
  | succ kj5 =>
   have H := HA.out
   clear HA
   simp only [impl_isGridOf.j0] at H
   by_cases c11 : x39_5 = true
   ·subst c11
    rw [if_pos rfl] at H
    obtain rfl := Option.some.inj H
    go_wp2
    go_ret
    exact ⟨Z10, Z17⟩
   replace c11 := Bool.eq_false_iff.mpr c11
   subst c11
   rw [if_neg (show ¬ (false = true) by decide)] at H
   have H' := Aside0.mk H
   clear H
   go_wp2
   go_loopg [42] kj5 (fun kq v42 w' => ∃ (x42_2 : Int), v42 = .int .i64 x42_2 ∧ Aside0 (impl_isGridOf.l0 kq l0 a4 l0 (l0.length : Int) x42_2 = some r) ∧ Aside0 (kq ≤ kj5) ∧ Drawn0 w w')
   case atStart => exact ⟨(0), (Z10), H', ⟨Nat.le_refl _⟩, Z17⟩
   case round =>
    clear H'
    (try clear c5); (try clear c11)
    obtain ⟨x42_2, rfl, HA, HK2, ⟨m2, rfl⟩⟩ := hrel
    cases gk with
    | zero => exact absurd HA.out (by simp [impl_isGridOf.l0])
    | succ k2 =>
     have H := HA.out
     clear HA
     simp only [impl_isGridOf.l0] at H
     by_cases c12 : x42_2 < (l0.length : Int)
     ·rw [if_pos c12] at H
      have c12b0 : decide (x42_2 < (l0.length : Int)) = true := decide_eq_true c12
      clear c12
      by_cases c13 : 0 ≤ x42_2
      ·rw [if_pos c13] at H
       have c13b0 : decide (0 ≤ x42_2) = true := decide_eq_true c13
       clear c13
       by_cases c14 : x42_2 < (l0.length : Int)
       ·rw [if_pos c14] at H
        have c14b0 : decide (x42_2 < (l0.length : Int)) = true := decide_eq_true c14
        clear c14
        by_cases c15 : 0 < (l0.length : Int)
        ·rw [if_pos c15] at H
         have c15b0 : decide (0 < (l0.length : Int)) = true := decide_eq_true c15
         have c15b1 : decide (0 < l0.length) = true := decide_eq_true (by omega)
         clear c15
         by_cases c16 : ((rdOf ByteArray.empty l0 x42_2).size : Int) = ((rdOf ByteArray.empty l0 0).size : Int)
         ·rw [if_pos c16] at H
          have c16b0 : (((rdOf ByteArray.empty l0 x42_2).size : Int) == ((rdOf ByteArray.empty l0 0).size : Int)) = true := beq_iff_eq.mpr c16
          have c16b1 : (((rdOf ByteArray.empty l0 x42_2).size : Int) != ((rdOf ByteArray.empty l0 0).size : Int)) = false := bne_eq_false_iff_eq.mpr c16
          have c16b2 : ((rdOf ByteArray.empty l0 x42_2).size == (rdOf ByteArray.empty l0 0).size) = true := by first | simpa using c16 | (simp at c16 ⊢; omega)
          clear c16
          have H' := Aside0.mk H
          clear H
          have p414 : 0 ≤ (x42_2 : Int) := of_decide_eq_true (Z8)
          have q414 : x42_2 < (l0.length : Int) := of_decide_eq_true (Z8)
          obtain ⟨ad414, e414, hx414_0⟩ := Kd.at_string HR0.out x42_2 p414 q414
          cases e414
          replace p414 := eq_true p414
          replace q414 := eq_true q414
          have p415 : 0 ≤ (0 : Int) := (by omega)
          have q415 : 0 < (l0.length : Int) := of_decide_eq_true (Z8)
          obtain ⟨ad415, e415, hx415_0⟩ := Kd.at_string HR0.out 0 p415 q415
          obtain rfl : ad414 = ad415 := (by injection e415)
          have qi415 : (0 < l0.length) = True := eq_true (by omega)
          (try rw [show ((0 : Int)).toNat = 0 from rfl] at hx415_0)
          (try rw [Addr.add_zero'] at hx415_0)
          replace p415 := eq_true p415
          replace q415 := eq_true q415
          go_wp2
          go_loopg [13] k2 (fun kq v13 w' => ∃ (x13_3 : Int), v13 = .int .i64 x13_3 ∧ Aside0 (impl_isGridOf.l1 kq l0 a4 (rdOf ByteArray.empty l0 x42_2) x13_3 l0 (l0.length : Int) x42_2 = some r) ∧ Aside0 (kq ≤ k2) ∧ Drawn0 w w')
          case atStart => exact ⟨(0), (Z10), H', ⟨Nat.le_refl _⟩, Z17⟩
          case round =>
           clear H'
           (try clear c12); (try clear c12b0); (try clear c13); (try clear c13b0); (try clear c14); (try clear c14b0); (try clear c15); (try clear c15b0); (try clear c15b1); (try clear c16); (try clear c16b0); (try clear c16b1); (try clear c16b2); (try clear hx414_0); (try clear hx415_0); (try clear p414); (try clear p415); (try clear q414); (try clear q415)
           obtain ⟨x13_3, rfl, HA, HK3, ⟨m3, rfl⟩⟩ := hrel
           cases gk with
           | zero => exact absurd HA.out (by simp [impl_isGridOf.l1])
           | succ k3 =>
            have H := HA.out
            clear HA
            simp only [impl_isGridOf.l1] at H
            by_cases c17 : x13_3 < ((rdOf ByteArray.empty l0 x42_2).size : Int)
            ·rw [if_pos c17] at H
             have c17b0 : decide (x13_3 < ((rdOf ByteArray.empty l0 x42_2).size : Int)) = true := decide_eq_true c17
             clear c17
             by_cases c18 : 0 ≤ x13_3
             ·rw [if_pos c18] at H
              have c18b0 : decide (0 ≤ x13_3) = true := decide_eq_true c18
              clear c18
              replace H := Option.bind_eq_some_iff.mp H
              obtain ⟨t416, A200, H⟩ := H
              (try dsimp only at H)
              have A20 := Aside0.mk A200
              clear A200
              by_cases c21 : t416 < 0
              ·rw [if_pos c21] at H
               have c21b0 : decide (t416 < 0) = true := decide_eq_true c21
               clear c21
               obtain rfl := Option.some.inj H
               have p19 : 0 ≤ (x13_3 : Int) := of_decide_eq_true (Z8)
               have q19 : x13_3 < ((rdOf ByteArray.empty l0 x42_2).size : Int) := of_decide_eq_true (Z8)
               have hx19 := bt_at (rdOf ByteArray.empty l0 x42_2) x13_3
               replace p19 := eq_true p19
               replace q19 := eq_true q19
               go_wp2_with (first | ((with_reducible refine gate_callee (f := 113) rfl ?_); refine gl_ 63 Try.func113 #[.string a4, .int .u8 (bt (rdOf ByteArray.empty l0 x42_2) x13_3)] ?_; (with_reducible refine (strings_IndexByte.calls a4 (bt (rdOf ByteArray.empty l0 x42_2) x13_3) t416 _ A20.out).mono ?_); rintro e w' ⟨rfl, ⟨nd, rfl⟩⟩; refine ⟨_, rfl, ?_⟩))
               go_ret
               exact ⟨Z10, Z17⟩
              rw [if_neg c21] at H
              have c21b0 : decide (t416 < 0) = false := decide_eq_false c21
              clear c21
              have H' := Aside0.mk H
              clear H
              have p19 : 0 ≤ (x13_3 : Int) := of_decide_eq_true (Z8)
              have q19 : x13_3 < ((rdOf ByteArray.empty l0 x42_2).size : Int) := of_decide_eq_true (Z8)
              have hx19 := bt_at (rdOf ByteArray.empty l0 x42_2) x13_3
              replace p19 := eq_true p19
              replace q19 := eq_true q19
              go_wp2_with (first | ((with_reducible refine gate_callee (f := 113) rfl ?_); refine gl_ 63 Try.func113 #[.string a4, .int .u8 (bt (rdOf ByteArray.empty l0 x42_2) x13_3)] ?_; (with_reducible refine (strings_IndexByte.calls a4 (bt (rdOf ByteArray.empty l0 x42_2) x13_3) t416 _ A20.out).mono ?_); rintro e w' ⟨rfl, ⟨nd, rfl⟩⟩; refine ⟨_, rfl, ?_⟩))
              go_roundg k3
              case measure => have := HJ5.out; have := HK2.out; have := HK3.out; omega
              case rel => exact ⟨(wrap64 (x13_3 + 1)), (Z10), H', ⟨Z84 HJ5.out⟩, Z17⟩
             rw [if_neg c18] at H
             exact absurd H (by simp)
            rw [if_neg c17] at H
            have c17b0 : decide (x13_3 < ((rdOf ByteArray.empty l0 x42_2).size : Int)) = false := decide_eq_false c17
            clear c17
            have H' := Aside0.mk H
            clear H
            go_wp2
            go_roundg k3
            case measure => have := HJ5.out; have := HK2.out; have := HK3.out; omega
            case rel => exact ⟨(wrap64 (x42_2 + 1)), (Z10), H', ⟨Z84 HJ5.out⟩, Z17⟩
         rw [if_neg c16] at H
         have c16b0 : (((rdOf ByteArray.empty l0 x42_2).size : Int) == ((rdOf ByteArray.empty l0 0).size : Int)) = false := beq_eq_false_iff_ne.mpr c16
         have c16b1 : (((rdOf ByteArray.empty l0 x42_2).size : Int) != ((rdOf ByteArray.empty l0 0).size : Int)) = true := bne_iff_ne.mpr c16
         have c16b2 : ((rdOf ByteArray.empty l0 x42_2).size == (rdOf ByteArray.empty l0 0).size) = false := by first | simpa using c16 | (simp at c16 ⊢; omega)
         obtain rfl := Option.some.inj H
         have p414 : 0 ≤ (x42_2 : Int) := of_decide_eq_true (Z8)
         have q414 : x42_2 < (l0.length : Int) := of_decide_eq_true (Z8)
         obtain ⟨ad414, e414, hx414_0⟩ := Kd.at_string HR0.out x42_2 p414 q414
         cases e414
         replace p414 := eq_true p414
         replace q414 := eq_true q414
         have p415 : 0 ≤ (0 : Int) := (by omega)
         have q415 : 0 < (l0.length : Int) := of_decide_eq_true (Z8)
         obtain ⟨ad415, e415, hx415_0⟩ := Kd.at_string HR0.out 0 p415 q415
         obtain rfl : ad414 = ad415 := (by injection e415)
         have qi415 : (0 < l0.length) = True := eq_true (by omega)
         (try rw [show ((0 : Int)).toNat = 0 from rfl] at hx415_0)
         (try rw [Addr.add_zero'] at hx415_0)
         replace p415 := eq_true p415
         replace q415 := eq_true q415
         go_wp2
         go_ret
         exact ⟨Z10, Z17⟩
        rw [if_neg c15] at H
        exact absurd H (by simp)
       rw [if_neg c14] at H
       exact absurd H (by simp)
      rw [if_neg c13] at H
      exact absurd H (by simp)
     rw [if_neg c12] at H
     have c12b0 : decide (x42_2 < (l0.length : Int)) = false := decide_eq_false c12
     clear c12
     obtain rfl := Option.some.inj H
     go_wp2
     go_ret
     exact ⟨Z10, Z17⟩

/-! ### impl_IsScan: function 47 -/
def impl_IsScan.f (k : Nat) (l0 : List ByteArray) : Option (Bool) := (impl_isGridOf.f k l0 1 60 20 (⟨#[46, 111, 63]⟩ : ByteArray)).bind fun t417 => (some t417)
theorem impl_IsScan.mono : ∀ a0 k, LeO (impl_IsScan.f k a0) (impl_IsScan.f (k + 1) a0) := by
 intro a0 k
 unfold impl_IsScan.f
 exact mo7_
set_option maxHeartbeats 8000000 in
set_option maxRecDepth 100000 in
theorem impl_IsScan.calls (k : Nat) (A0 : Option Addr) (c0 : Nat) (l0 : List ByteArray) (r : Bool) (w : World) (hr0 : Kd.C Kd.string w A0 l0.length l0) (hc0 : l0.length ≤ c0) (h : impl_IsScan.f k l0 = some r) :
  Calls Try.prog 47 #[.slice A0 l0.length c0] w fun e w' => e = .returned (.bool r) ∧ Drawn0 w w' := by
 have HR0 := Aside0.mk hr0
 have HC0 := Aside0.mk hc0
 clear hr0 hc0
 have H : ((impl_isGridOf.f k l0 1 60 20 (⟨#[46, 111, 63]⟩ : ByteArray)).bind fun t417 => (some t417)) = some r := h
 clear h
 replace H := Option.bind_eq_some_iff.mp H
 obtain ⟨t417, A20, H⟩ := H
 replace H : (some t417) = some r := H
 have A2 := Aside0.mk A20
 clear A20
 obtain rfl := Option.some.inj H
 go_enter Try.func47, Try.ntmps47
 go_wp2_with (first | ((with_reducible refine gate_callee (f := 90) rfl ?_); refine gl_ 4 Try.func90 #[.slice A0 l0.length c0, .int .i64 1, .int .i64 60, .int .i64 20, .string (⟨#[46, 111, 63]⟩ : ByteArray)] ?_; (with_reducible refine (impl_isGridOf.calls k _ _ l0 1 60 20 (⟨#[46, 111, 63]⟩ : ByteArray) t417 _ ?_ ?_ A2.out).mono ?_); exact Z9 HR0.out; exact HC0.out; rintro e w' ⟨rfl, ⟨nd, rfl⟩⟩; refine ⟨_, rfl, ?_⟩))
 go_ret
 exact ⟨Z10, Z17⟩

/-! ### impl_drawnW: function 48: by this session -/
theorem gate_valuecall {P : Program} {ops : Array Oper} {Q : Exit → Act → World → Prop} {rest : List Oper} {o : Oper} {a : Act} {W : World} {s : Tmp} {as_ : Array Operand} {ts : Array TypeId} (_ho : o.op = .call { callee := .value (.tmp s), args := as_, argTypes := ts }) (h : wpList P ops Q (o :: rest) a W) : wpList P ops Q (o :: rest) a W := h
/-- A call of a function value in a plain region. -/
theorem goesV_ {P : Program} {ops : Array Oper} {Q : Exit → Act → World → Prop} {rest : List Oper} {oi : Oper} {a : Act} {w : World} (N : Option Tmp) (hd : oi.dst = N) (hg : oi.guard = none) {f : FuncId} {fn : Func} {s : Tmp} {as_ : Array Operand} {ts : Array TypeId} (hf : P.funcs[f]? = some fn) (hname : (fn.name == "runtime.NumGoroutine") = false) (hb : fn.body.isSome = true) (args caps : Array Value)
  (hop : oi.op = .call { callee := .value (.tmp s), args := as_, argTypes := ts }) (hv : a.eval (.tmp s) = .func (.func f) #[] caps) (hargs : as_.map a.eval = args)
  (h : Calls P f (args ++ caps) w fun e w' => ∃ v, e = .returned v ∧ wpList P ops Q rest (a.put N v) w') : wpList P ops Q (oi :: rest) a w := by
 refine wpList_plain hg fun K hK => ?_
 have he := enters_ hf hname hb (args ++ caps) w
 have hrun : (execOp a.eval oi).run P w = .ok (.enter f (args ++ caps)) w := by
  unfold execOp
  simp [hop, resolve, Deferred.ofValue, hv, invoke, hargs, he]
 unfold Oper.wp
 rw [hrun, Oper.upon_enter]
 refine h.mono fun e w'' hh => ?_
 obtain ⟨v, rfl, hk⟩ := hh
 subst hd
 exact hK _ _ hk
mutual
def impl_drawn.l0 (F : Int → Int → Option Int) : Nat → Int → Int → List ByteArray → Int → Option (List ByteArray)
 | 0, _, _, _, _ => none
 | k + 1, x0, x1, x7, x8 => if x8 < x0 then (if 0 ≤ x1 then (if (x1 : Int).toNat ≤ 281474976710656 then ((some (List.replicate (x1 : Int).toNat 0 : List Int)).bind fun y135 => (impl_drawn.l1 F k x0 x1 x7 x8 y135 (y135.length : Int) 0)) else (none)) else (none)) else (some x7)
def impl_drawn.l1 (F : Int → Int → Option Int) : Nat → Int → Int → List ByteArray → Int → List Int → Int → Int → Option (List ByteArray)
 | 0, _, _, _, _, _, _, _ => none
 | k + 1, x0, x1, x7, x8, x9, x20, x21 => if x21 < x20 then ((F x8 x21).bind fun t138 => (if 0 ≤ x21 then (if x21 < (x9.length : Int) then (impl_drawn.l1 F k x0 x1 x7 x8 (x9.set (x21 : Int).toNat t138) x20 (wrap64 (x21 + 1))) else (none)) else (none))) else (if x7.length < 8796093022208 then (impl_drawn.l0 F k x0 x1 (x7 ++ [strOfNums x9]) (wrap64 (x8 + 1))) else (none))
end
def impl_drawn.f (F : Int → Int → Option Int) (k : Nat) (a0 : Int) (a1 : Int) : Option (List ByteArray) := impl_drawn.l0 F k a0 a1 (([] : List ByteArray)) 0
theorem impl_drawn.mono_l (F : Int → Int → Option Int) : ∀ k, (∀ y0 y1 y2 y3, LeO (impl_drawn.l0 F k y0 y1 y2 y3) (impl_drawn.l0 F (k + 1) y0 y1 y2 y3)) ∧ (∀ y0 y1 y2 y3 y4 y5 y6, LeO (impl_drawn.l1 F k y0 y1 y2 y3 y4 y5 y6) (impl_drawn.l1 F (k + 1) y0 y1 y2 y3 y4 y5 y6))
 | 0 => ⟨fun _ _ _ _ r h => by simp [impl_drawn.l0] at h, fun _ _ _ _ _ _ _ r h => by simp [impl_drawn.l1] at h⟩
 | k + 1 => by
  obtain ⟨ih0, ih1⟩ := impl_drawn.mono_l F k
  refine ⟨?_, ?_⟩
  ·intro y0 y1 y2 y3
   unfold impl_drawn.l0
   exact mo7_
  intro y0 y1 y2 y3 y4 y5 y6
  unfold impl_drawn.l1
  exact mo7_
theorem impl_drawn.mono (F : Int → Int → Option Int) : ∀ a0 a1 k, LeO (impl_drawn.f F k a0 a1) (impl_drawn.f F (k + 1) a0 a1) := by
 intro a0 a1 k
 obtain ⟨ih0, ih1⟩ := impl_drawn.mono_l F k
 unfold impl_drawn.f
 exact mo7_
theorem impl_drawn.mono2_l (F G : Int → Int → Option Int) (hFG : ∀ a b, LeO (F a b) (G a b)) : ∀ k, (∀ y0 y1 y2 y3, LeO (impl_drawn.l0 F k y0 y1 y2 y3) (impl_drawn.l0 G (k + 1) y0 y1 y2 y3)) ∧ (∀ y0 y1 y2 y3 y4 y5 y6, LeO (impl_drawn.l1 F k y0 y1 y2 y3 y4 y5 y6) (impl_drawn.l1 G (k + 1) y0 y1 y2 y3 y4 y5 y6))
 | 0 => ⟨fun _ _ _ _ r h => by simp [impl_drawn.l0] at h, fun _ _ _ _ _ _ _ r h => by simp [impl_drawn.l1] at h⟩
 | k + 1 => by
  obtain ⟨ih0, ih1⟩ := impl_drawn.mono2_l F G hFG k
  refine ⟨?_, ?_⟩
  ·intro y0 y1 y2 y3
   unfold impl_drawn.l0
   repeat' first
   | (with_reducible exact ih0 _ _ _ _)
   | (with_reducible exact ih1 _ _ _ _ _ _ _)
   | (with_reducible exact hFG _ _)
   | (with_reducible exact LeO.refl _)
   | (with_reducible exact LeO.none _)
   | (with_reducible refine LeO.ite ?_ ?_)
   | (with_reducible refine LeO.bind ?_ (fun _ => ?_))
   | exact ih0 _ _ _ _
   | exact ih1 _ _ _ _ _ _ _
   | exact LeO.none _
   | refine LeO.ite ?_ ?_
   | refine LeO.bind ?_ (fun _ => ?_)
  intro y0 y1 y2 y3 y4 y5 y6
  unfold impl_drawn.l1
  repeat' first
  | (with_reducible exact ih0 _ _ _ _)
  | (with_reducible exact ih1 _ _ _ _ _ _ _)
  | (with_reducible exact hFG _ _)
  | (with_reducible exact LeO.refl _)
  | (with_reducible exact LeO.none _)
  | (with_reducible refine LeO.ite ?_ ?_)
  | (with_reducible refine LeO.bind ?_ (fun _ => ?_))
  | exact ih0 _ _ _ _
  | exact ih1 _ _ _ _ _ _ _
  | exact LeO.none _
  | refine LeO.ite ?_ ?_
  | refine LeO.bind ?_ (fun _ => ?_)
theorem impl_drawn.mono2 (F G : Int → Int → Option Int) (hFG : ∀ a b, LeO (F a b) (G a b)) : ∀ a0 a1 k, LeO (impl_drawn.f F k a0 a1) (impl_drawn.f G (k + 1) a0 a1) := by
 intro a0 a1 k
 obtain ⟨ih0, ih1⟩ := impl_drawn.mono2_l F G hFG k
 unfold impl_drawn.f
 exact mo7_
set_option maxHeartbeats 8000000 in
set_option maxRecDepth 100000 in
theorem impl_drawn.calls (F : Int → Int → Option Int) (cf : FuncId) (fn : Func) (caps : Array Value) (hcf : Try.prog.funcs[cf]? = some fn) (hcn : (fn.name == "runtime.NumGoroutine") = false) (hcb : fn.body.isSome = true) (k : Nat) (a0 : Int) (a1 : Int) (r : List ByteArray) (w : World)
  (hF : ∀ (a b r : Int) (W : World), Below w.heap.size w W → F a b = some r → Calls Try.prog cf (#[.int .i64 a, .int .i64 b] ++ caps) W fun e w' => e = .returned (.int .u8 r) ∧ Below W.heap.size W w') (h : impl_drawn.f F k a0 a1 = some r) :
  Calls Try.prog 48 #[.int .i64 a0, .int .i64 a1, .func (.func cf) #[] caps] w fun e w' => ∃ v0_ : Value, e = .returned (v0_) ∧ Kd.R Kd.string 9 w' w.heap.size (fun _ => True) v0_ r ∧ Below w.heap.size w w' := by
 have HB := Aside0.mk (Below.refl w.heap.size w)
 have HF := Aside0.mk hF
 have HCF := Aside0.mk hcf
 have HCN := Aside0.mk hcn
 have HCB := Aside0.mk hcb
 clear hF hcf hcn hcb
 have H : (impl_drawn.l0 F k a0 a1 (([] : List ByteArray)) 0) = some r := h
 clear h
 obtain ⟨y132, hy132⟩ : ∃ y_ : List ByteArray, y_ = (([] : List ByteArray)) := ⟨_, rfl⟩
 replace H : (impl_drawn.l0 F k a0 a1 y132 0) = some r := by first | (rw [hy132]; with_reducible exact H) | (have H2_ := (Option.bind_some _ _).symm.trans H; rw [hy132]; with_reducible exact H2_) | (have H2_ := (Option.bind_some _ _).symm.trans H; with_reducible exact H2_) | with_reducible exact H | (rw [hy132]; exact H) | exact H
 have Ny132 := Aside0.mk hy132
 clear hy132
 have H' := Aside0.mk H
 clear H
 go_enter Try.func48, Try.ntmps48
 go_wp2_with (first | ((with_reducible refine gate_dst (N := 11) rfl ?_); refine Kd.R_lit Kd.string _ 9 ?hg (N := 11) ?hd (xs := ([] : List ByteArray)) (inner := []) (ok := fun _ => True) (okp := fun _ => True) ?hr ?hp (fun _ hk => hk) trivial (Below.refl _ _) (Nat.le_refl _) (by simp) ?_; (case hd => rfl); (case hg => rfl); (case hr => exact Z44); (case hp => exact (Reps.none _ _)); intro v133 w3 ho4 hb hg_ hnew_; clear hg_ hnew_; (first | rw [← Ny132.out] at ho4 | (simp only [Int.reduceToNat] at ho4; rw [← Ny132.out] at ho4)); refine k2_ (Kd.R_lower ho4 (below_size (Z2))) (below_step (Z2) hb) ?_; clear HB; intro HO134 HB; clear hb ho4))
 go_loopg [7, 8] k (fun kq v7 v8 w' => ∃ (x7_1 : List ByteArray) (x8_1 : Int), v8 = .int .i64 x8_1 ∧ Aside0 (impl_drawn.l0 F kq a0 a1 x7_1 x8_1 = some r) ∧ Aside0 (kq ≤ k) ∧ Aside0 (Kd.R Kd.string 9 w' w.heap.size (fun _ => True) v7 x7_1) ∧ Aside0 (Below w.heap.size w w'))
 case atStart => exact ⟨(y132), (0), (Z10), H', ⟨Nat.le_refl _⟩, ⟨Z1 HO134.out⟩, ⟨Z2⟩⟩
 case round =>
  clear H'
  (try clear p2)
  obtain ⟨x7_1, x8_1, rfl, HA, HK1, HO_7, HB⟩ := hrel
  cases gk with
  | zero => exact absurd HA.out (by simp [impl_drawn.l0])
  | succ k1 =>
   have H := HA.out
   clear HA
   simp only [impl_drawn.l0] at H
   by_cases c5 : x8_1 < a0
   ·rw [if_pos c5] at H
    have c5b0 : decide (x8_1 < a0) = true := decide_eq_true c5
    clear c5
    by_cases c6 : 0 ≤ a1
    ·rw [if_pos c6] at H
     have c6b0 := eq_true c6
     have c6b1 : decide (0 ≤ a1) = true := decide_eq_true c6
     clear c6
     by_cases c7 : (a1 : Int).toNat ≤ 281474976710656
     ·rw [if_pos c7] at H
      have c7b0 := eq_true c7
      have c7b1 : decide ((a1 : Int).toNat ≤ 281474976710656) = true := decide_eq_true c7
      clear c7
      obtain ⟨y135, hy135⟩ : ∃ y_ : List Int, y_ = (List.replicate (a1 : Int).toNat 0) := ⟨_, rfl⟩
      replace H : (impl_drawn.l1 F k1 a0 a1 x7_1 x8_1 y135 (y135.length : Int) 0) = some r := by first | (rw [hy135]; with_reducible exact H) | (have H2_ := (Option.bind_some _ _).symm.trans H; rw [hy135]; with_reducible exact H2_) | (have H2_ := (Option.bind_some _ _).symm.trans H; with_reducible exact H2_) | with_reducible exact H | (rw [hy135]; exact H) | exact H
      have Ny135 := Aside0.mk hy135
      clear hy135
      have H' := Aside0.mk H
      clear H
      go_wp2_with (first | ((with_reducible refine gate_dst (N := 18) rfl ?_); refine Kd.R_make (Kd.int .u8) _ 5 rfl (N := 18) rfl 22 _ _ rfl a1 rfl rfl Try.underlying22 (.int .u8 0) 1 info5 rfl (by decide) (by omega) 0 (ok := fun _ => True) (okp := fun _ => True) rfl (fun _ hk => hk) trivial (of_decide_eq_true (Z8)) (Nat.le_trans (Nat.mul_le_mul_right _ (of_decide_eq_true (Z8) : a1.toNat ≤ 281474976710656)) (by omega)) (Below.refl _ _) (Nat.le_refl _) ?_; intro v136 w8 ho9 hb hg_ hnew_; clear hg_ hnew_; (first | rw [← Ny135.out] at ho9 | (simp only [Int.reduceToNat] at ho9; rw [← Ny135.out] at ho9)); refine k3_ (Kd.R_below (Z1 HO_7.out) hb) (Kd.R_lower ho9 (below_size (Z2))) (below_step (Z2) hb) ?_; clear HO_7 HB; intro HO_7 HO137 HB; clear hb ho9; obtain ⟨Ao10, co10, eo10⟩ := Kd.R_slice HO137.out; subst eo10))
      go_loopg [21] k1 (fun kq v21 w' => ∃ (x9_2 : List Int) (x21_2 : Int), v21 = .int .i64 x21_2 ∧ Aside0 (impl_drawn.l1 F kq a0 a1 x7_1 x8_1 x9_2 (y135.length : Int) x21_2 = some r) ∧ Aside0 (kq ≤ k1) ∧ Aside0 (Kd.R Kd.string 9 w' w.heap.size (fun _ => True) u7 x7_1) ∧ Aside0 (Kd.R (Kd.int .u8) 5 w' w.heap.size (fun _ => True) (.slice Ao10 y135.length co10) x9_2) ∧ Aside0 (Below w.heap.size w w'))
      case atStart => exact ⟨(y135), (0), (Z10), H', ⟨Nat.le_refl _⟩, ⟨Z1 HO_7.out⟩, ⟨Z1 HO137.out⟩, ⟨Z2⟩⟩
      case round =>
       clear H'
       (try clear c5); (try clear c5b0); (try clear c6); (try clear c6b0); (try clear c6b1); (try clear c7); (try clear c7b0); (try clear c7b1); (try clear c8)
       obtain ⟨x9_2, x21_2, rfl, HA, HK2, HO_7, HO_9, HB⟩ := hrel
       have hl9_2 := (Kd.R_reads' HO_9.out).1
       rw [hl9_2] at HO_9
       (try simp only [hl9_2])
       (try simp only [hl9_2] at HO_7)
       cases gk with
       | zero => exact absurd HA.out (by simp [impl_drawn.l1])
       | succ k2 =>
        have H := HA.out
        clear HA
        simp only [impl_drawn.l1] at H
        by_cases c11 : x21_2 < (y135.length : Int)
        ·rw [if_pos c11] at H
         have c11b0 : decide (x21_2 < (y135.length : Int)) = true := decide_eq_true c11
         clear c11
         replace H := Option.bind_eq_some_iff.mp H
         obtain ⟨t138, A120, H⟩ := H
         (try dsimp only at H)
         have A12 := Aside0.mk A120
         clear A120
         by_cases c13 : 0 ≤ x21_2
         ·rw [if_pos c13] at H
          have c13b0 : decide (0 ≤ x21_2) = true := decide_eq_true c13
          clear c13
          by_cases c14 : x21_2 < (x9_2.length : Int)
          ·rw [if_pos c14] at H
           have c14b0 : decide (x21_2 < (x9_2.length : Int)) = true := decide_eq_true c14
           clear c14
           obtain ⟨y139, hy139⟩ : ∃ y_ : List Int, y_ = (x9_2.set (x21_2 : Int).toNat t138) := ⟨_, rfl⟩
           replace H : (impl_drawn.l1 F k2 a0 a1 x7_1 x8_1 y139 (y135.length : Int) (wrap64 (x21_2 + 1))) = some r := by first | (rw [hy139]; with_reducible exact H) | (have H2_ := (Option.bind_some _ _).symm.trans H; rw [hy139]; with_reducible exact H2_) | (have H2_ := (Option.bind_some _ _).symm.trans H; with_reducible exact H2_) | with_reducible exact H | (rw [hy139]; exact H) | exact H
           have Ny139 := Aside0.mk hy139
           clear hy139
           have H' := Aside0.mk H
           clear H
           go_wp2_with (first | ((with_reducible refine gate_valuecall (s := 26) rfl ?_); refine goesV_ (some 29) rfl rfl HCF.out HCN.out HCB.out #[.int .i64 x8_1, .int .i64 x21_2] caps rfl (by rfl) (Z18) ?_; (with_reducible refine (HF.out x8_1 x21_2 t138 wr (Z2) A12.out).mono ?_); rintro e w16 ⟨rfl, hb⟩; refine ⟨_, rfl, ?_⟩; refine k3_ (Kd.R_below (Z1 HO_7.out) hb) (Kd.R_below (Z1 HO_9.out) hb) (below_step (Z2) hb) ?_; clear HO_7 HO_9 HB; intro HO_7 HO_9 HB; (try clear hb); have p15 : 0 ≤ (x21_2 : Int) := of_decide_eq_true (Z8); have q15 : (x21_2 : Int) < ((x9_2.length : Int) : Int) := of_decide_eq_true (Z8); obtain ⟨go15, co15, eo15, gb15, gl15, cl15, HG15⟩ := Kd.R_form HO_9.out (by omega); (first | cases eo15 | (injection eo15 with ea_ en_ ec_; (first | subst ea_ | (injection ea_ with ea_; subst ea_)); subst ec_; clear en_)); have GB15 := Aside0.mk gb15; have GG15 := Aside0.mk HG15; clear gb15 gl15 HG15; obtain ⟨hx15_0, hf15_0⟩ := Kd.R_celln 0 HO_9.out (x21_2 : Int) p15 q15; replace p15 := eq_true p15; replace q15 := eq_true q15; obtain ⟨hy17_, hz17_⟩ := Kd.R_celln 0 HO_9.out (x21_2 : Int) (of_decide_eq_true (Z8)) (of_decide_eq_true (Z8)); have HP17 := Kd.R_putg HO_9.out (x21_2 : Int) t138) | ((with_reducible refine gate_store (t := 5) (p := 30) rfl ?_); refine store_event (t := 5) (p := 30) (v := ?vo_w18) (w1 := (w16.setCell ⟨go15, (x21_2 : Int).toNat, none⟩ (.int .u8 t138))) ?hg ?ho ?hn ?hr ?_; (case ho => rfl); (case hg => rfl); (case hn => rfl); (case hr => exact Z44); intro w18 hw; have hg : w16.grownBy w18 (some go15) := (by rw [hw]; exact HP17.2); have hp_ : Kd.R (Kd.int .u8) 5 w18 w.heap.size (fun _ => True) (.slice (some ⟨go15, 0, none⟩) x9_2.length co10) y139 := (by rw [hw, Ny139.out]; exact HP17.1); clear HP17; refine k3_ (Kd.R_over' (v := (.slice (some ⟨go15, 0, none⟩) x9_2.length co10)) (Z1 HO_7.out) (Kd.R_typed HO_9.out) (by decide) hg) (hp_) ((by rw [hw]; exact below_set (HB.out) GB15.out : Below w.heap.size w w18)) ?_; clear HO_7 HO_9 HB; intro HO_7 HO_9 HB; clear hg hw hp_))
           (try simp only [← hl9_2])
           go_roundg k2
           case measure => have := HK1.out; have := HK2.out; omega
           case rel => exact ⟨(y139), (wrap64 (x21_2 + 1)), (Z10), H', ⟨Z47⟩, ⟨Z89 HO_7.out⟩, ⟨Z89 HO_9.out⟩, ⟨Z2⟩⟩
          rw [if_neg c14] at H
          exact absurd H (by simp)
         rw [if_neg c13] at H
         exact absurd H (by simp)
        rw [if_neg c11] at H
        have c11b0 : decide (x21_2 < (y135.length : Int)) = false := decide_eq_false c11
        have c11b9 : decide (x21_2 < (x9_2.length : Int)) = false := by rw [← hl9_2]; exact c11b0
        clear c11
        by_cases c19 : x7_1.length < 8796093022208
        ·rw [if_pos c19] at H
         have LMc19 := Aside0.mk c19
         clear c19
         obtain ⟨y140, hy140⟩ : ∃ y_ : List ByteArray, y_ = (x7_1 ++ [strOfNums x9_2]) := ⟨_, rfl⟩
         replace H : (impl_drawn.l0 F k2 a0 a1 y140 (wrap64 (x8_1 + 1))) = some r := by first | (rw [hy140]; with_reducible exact H) | (have H2_ := (Option.bind_some _ _).symm.trans H; rw [hy140]; with_reducible exact H2_) | (have H2_ := (Option.bind_some _ _).symm.trans H; with_reducible exact H2_) | with_reducible exact H | (rw [hy140]; exact H) | exact H
         have Ny140 := Aside0.mk hy140
         clear hy140
         have H' := Aside0.mk H
         clear H
         have hcv20 := own_string (P := Try.prog) Try.underlying22 Try.underlying5 Try.underlying9 (Kd.own_of_R HO_9.out)
         go_wp2_with (first | ((with_reducible refine gate_builtin (b := .append) (xs := #[.tmp 32, .tmp 35]) rfl ?_); at_builtin; refine Kd.R_append Kd.string (w0 := w) w.heap.size rfl (.tmp 32) (.tmp 35) 24 9 (.string ⟨#[]⟩) 16 rfl Try.underlying24 info9 rfl (by decide) (by omega) u7 x7_1 (strOfNums x9_2) [.string (strOfNums x9_2)] (fun _ => True) (fun _ => False) rfl rfl ?aP (fun _ hk => hk.elim) ?aF ?aO ?aB ?aS ?aL ?_; (case aP => exact rfl); (case aB => exact Z2); (case aF => exact (fun _ _ => trivial)); (case aO => exact Z1 HO_7.out); (case aS => exact (below_size (Z2))); (case aL => have := LMc19.out; omega); intro v141 w21 ho hb hg hat; rw [← Ny140.out] at ho; refine k3_ (Kd.R_over' (Z1 HO_9.out) (Kd.R_typed (Z1 HO_7.out)) (by decide) hg) (hb) (ho) ?_; clear HO_9 HB HO_7; intro HO_9 HB HO142; clear ho hb hg hat))
         (try simp only [← hl9_2])
         go_roundg k2
         case measure => have := HK1.out; have := HK2.out; omega
         case rel => exact ⟨(y140), (wrap64 (x8_1 + 1)), (Z10), H', ⟨Z47⟩, ⟨Z89 HO142.out⟩, ⟨Z2⟩⟩
        rw [if_neg c19] at H
        exact absurd H (by simp)
     rw [if_neg c7] at H
     exact absurd H (by simp)
    rw [if_neg c6] at H
    exact absurd H (by simp)
   rw [if_neg c5] at H
   have c5b0 : decide (x8_1 < a0) = false := decide_eq_false c5
   clear c5
   obtain rfl := Option.some.inj H
   go_wp2
   go_ret
   exact ⟨_, Z11, Z1 HO_7.out, Z2⟩
def impl_drawnW.f (k : Nat) (a0 : Int) (a1 : Int) (F : Int → Int → Option Int) : Option (List ByteArray) := impl_drawn.f F k a0 a1
theorem impl_drawnW.mono : ∀ a0 a1 F k, LeO (impl_drawnW.f k a0 a1 F) (impl_drawnW.f (k + 1) a0 a1 F) := fun a0 a1 F k => impl_drawn.mono F a0 a1 k
theorem impl_drawnW.calls (k : Nat) (a0 : Int) (a1 : Int) (cf : FuncId) (fn : Func) (caps : Array Value) (hcf : Try.prog.funcs[cf]? = some fn) (hcn : (fn.name == "runtime.NumGoroutine") = false) (hcb : fn.body.isSome = true) (F : Int → Int → Option Int) (r : List ByteArray) (w : World)
  (hF : ∀ (a b r : Int) (W : World), Below w.heap.size w W → F a b = some r → Calls Try.prog cf (#[.int .i64 a, .int .i64 b] ++ caps) W fun e w' => e = .returned (.int .u8 r) ∧ Below W.heap.size W w') (h : impl_drawnW.f k a0 a1 F = some r) :
  Calls Try.prog 48 #[.int .i64 a0, .int .i64 a1, .func (.func cf) #[] caps] w fun e w' => ∃ v0_ : Value, e = .returned (v0_) ∧ Kd.R Kd.string 9 w' w.heap.size (fun _ => True) v0_ r ∧ Below w.heap.size w w' :=
 impl_drawn.calls F cf fn caps hcf hcn hcb k a0 a1 r w hF h
theorem impl_drawnW.mono2 (F G : Int → Int → Option Int) (h : ∀ a b, LeO (F a b) (G a b)) : ∀ a0 a1 k, LeO (impl_drawnW.f k a0 a1 F) (impl_drawnW.f (k + 1) a0 a1 G) := fun a0 a1 k => impl_drawn.mono2 F G h a0 a1 k

/-! ### impl_distance: function 50 -/
def impl_distance.f (a0 : Int) (a1 : Int) : Option (Int) := some (mx (wrap64 (a0 - a1)) (wrap64 (a1 - a0)))
set_option maxHeartbeats 8000000 in
set_option maxRecDepth 100000 in
theorem impl_distance.calls (a0 : Int) (a1 : Int) (r : Int) (w : World) (h : impl_distance.f a0 a1 = some r) :
  Calls Try.prog 50 #[.int .i64 a0, .int .i64 a1] w fun e w' => e = .returned (.int .i64 r) ∧ Below w.heap.size w w' := by
 have HB := Aside0.mk (Below.refl w.heap.size w)
 have H : (some (mx (wrap64 (a0 - a1)) (wrap64 (a1 - a0)))) = some r := h
 clear h
 obtain ⟨ji3, hji3⟩ : ∃ j_ : Int, (mx (wrap64 (a0 - a1)) (wrap64 (a1 - a0))) = j_ := ⟨_, rfl⟩
 replace H : (some ji3) = some r := by first | (rw [hji3] at H; exact H) | (simp only [hji3] at H ⊢; exact H)
 have hji3_ : (if (wrap64 (a0 - a1)) < (wrap64 (a1 - a0)) then (wrap64 (a1 - a0)) else (wrap64 (a0 - a1))) = ji3 := hji3
 obtain rfl := Option.some.inj H
 go_enter Try.func50, Try.ntmps50
 go_wp2
 go_ret
 exact ⟨by first | rfl | (simp [errW_none, errW_some] <;> rfl) | (simp only [← hji3]; first | rfl | (simp [errW_none, errW_some] <;> rfl)) | (simp [*, errW_none, errW_some] <;> rfl), Z2⟩

end Go.Proofs.Ytmnnmddfmmaohaa.PFnStains
