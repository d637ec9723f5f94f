-- written by a program of this session: the kit's print, with outer functions of the session's own (wip/ext)
import Derived.Test.YtmnnmddfmmaohaaPFnStainsx0
import Derived.Test.YtmnnmddfmmaohaaPFnStainsx7
namespace Go.Proofs.Ytmnnmddfmmaohaa.PFnStains
open Go.RowKit Go.Proofs.YtmnnmddfmmaohaaW.PrintWords Go.Proofs.YtmnnmddfmmaohaaW.PrintLast Go.Proofs.YtmnnmddfmmaohaaW.PrintMore
attribute [local go_sem] max2_int min2_int max_two min_two max_three min_three max_four min_four   -- for this text's walks alone
set_option linter.unusedVariables false
set_option linter.unusedSimpArgs false
theorem mo11_ {p : Prop} (h : p := by repeat' first | (with_reducible first | apply ih0 | apply ih0 | apply ih1 | apply ih1 | apply impl_IsScan.mono | apply impl_IsScan.mono | apply impl_sameSize.mono | apply impl_sameSize.mono | apply impl_scanFaults.mono | apply impl_scanFaults.mono | exact LeO.refl _ | exact LeO.none _ | refine LeO.ite ?_ ?_ | refine LeO.bind ?_ (fun _ => ?_)) | exact LeO.none _ | refine LeO.ite ?_ ?_ | refine LeO.bind ?_ (fun _ => ?_)) : p := h

/-! ### laws_pSameTexts: function 9 -/
def laws_pSameTexts.l0 : Nat → List ByteArray → List ByteArray → Int → Int → Option (Bool)
 | 0, _, _, _, _ => none
 | k + 1, x0, x1, x12, x13 => if x13 < x12 then (if 0 ≤ x13 then (if x13 < (x0.length : Int) then (if x13 < (x1.length : Int) then (if (rdOf ByteArray.empty x0 x13).toList = (rdOf ByteArray.empty x1 x13).toList then (laws_pSameTexts.l0 k x0 x1 x12 (wrap64 (x13 + 1))) else (some false)) else (none)) else (none)) else (none)) else (some true)
def laws_pSameTexts.f (k : Nat) (l0 : List ByteArray) (l1 : List ByteArray) : Option (Bool) := if (l0.length : Int) = (l1.length : Int) then (laws_pSameTexts.l0 k l0 l1 (l0.length : Int) 0) else (some false)
theorem laws_pSameTexts.mono_l : ∀ k, (∀ y0 y1 y2 y3, LeO (laws_pSameTexts.l0 k y0 y1 y2 y3) (laws_pSameTexts.l0 (k + 1) y0 y1 y2 y3))
 | 0 => fun _ _ _ _ r h => by simp [laws_pSameTexts.l0] at h
 | k + 1 => by
  have ih0 := laws_pSameTexts.mono_l k
  ·intro y0 y1 y2 y3
   unfold laws_pSameTexts.l0
   exact mo11_
theorem laws_pSameTexts.mono : ∀ a0 a1 k, LeO (laws_pSameTexts.f k a0 a1) (laws_pSameTexts.f (k + 1) a0 a1) := by
 intro a0 a1 k
 have ih0 := laws_pSameTexts.mono_l k
 unfold laws_pSameTexts.f
 exact mo11_
set_option maxHeartbeats 8000000 in
set_option maxRecDepth 100000 in
theorem laws_pSameTexts.calls (k : Nat) (A0 : Option Addr) (c0 : Nat) (l0 : List ByteArray) (A1 : Option Addr) (c1 : Nat) (l1 : List ByteArray) (r : Bool) (w : World) (hr0 : Kd.C Kd.string w A0 l0.length l0) (hc0 : l0.length ≤ c0) (hr1 : Kd.C Kd.string w A1 l1.length l1) (hc1 : l1.length ≤ c1) (h : laws_pSameTexts.f k l0 l1 = some r) :
  Calls Try.prog 9 #[.slice A0 l0.length c0, .slice A1 l1.length c1] w fun e w' => e = .returned (.bool r) ∧ Drawn0 w w' := by
 have HR0 := Aside0.mk hr0
 have HC0 := Aside0.mk hc0
 clear hr0 hc0
 have HR1 := Aside0.mk hr1
 have HC1 := Aside0.mk hc1
 clear hr1 hc1
 have H : (if (l0.length : Int) = (l1.length : Int) then (laws_pSameTexts.l0 k l0 l1 (l0.length : Int) 0) else (some false)) = some r := h
 clear h
 by_cases c3 : (l0.length : Int) = (l1.length : Int)
 ·rw [if_pos c3] at H
  have c3b0 : ((l0.length : Int) == (l1.length : Int)) = true := beq_iff_eq.mpr c3
  have c3b1 : ((l0.length : Int) != (l1.length : Int)) = false := bne_eq_false_iff_eq.mpr c3
  have c3b2 : (l0.length == l1.length) = true := by first | simpa using c3 | (simp at c3 ⊢; omega)
  clear c3
  have H' := Aside0.mk H
  clear H
  go_enter Try.func9, Try.ntmps9
  go_wp2
  repeat (go_quiet (fail); try go_wp2)
  go_loopg [13] k (fun kq v13 w' => ∃ (x13_1 : Int), v13 = .int .i64 x13_1 ∧ Aside0 (laws_pSameTexts.l0 kq l0 l1 (l0.length : Int) x13_1 = some r) ∧ Aside0 (kq ≤ k) ∧ Drawn0 w w')
  case atStart => exact ⟨(0), (Z10), H', ⟨Nat.le_refl _⟩, Z17⟩
  case round =>
   clear H'
   (try clear c1); (try clear p2); (try clear c3); (try clear c3b0); (try clear c3b1); (try clear c3b2)
   obtain ⟨x13_1, rfl, HA, HK1, ⟨m1, rfl⟩⟩ := hrel
   cases gk with
   | zero => exact absurd HA.out (by simp [laws_pSameTexts.l0])
   | succ k1 =>
    have H := HA.out
    clear HA
    simp only [laws_pSameTexts.l0] at H
    by_cases c4 : x13_1 < (l0.length : Int)
    ·rw [if_pos c4] at H
     have c4b0 : decide (x13_1 < (l0.length : Int)) = true := decide_eq_true c4
     clear c4
     by_cases c5 : 0 ≤ x13_1
     ·rw [if_pos c5] at H
      have c5b0 : decide (0 ≤ x13_1) = true := decide_eq_true c5
      clear c5
      by_cases c6 : x13_1 < (l0.length : Int)
      ·rw [if_pos c6] at H
       have c6b0 : decide (x13_1 < (l0.length : Int)) = true := decide_eq_true c6
       clear c6
       by_cases c7 : x13_1 < (l1.length : Int)
       ·rw [if_pos c7] at H
        have c7b0 : decide (x13_1 < (l1.length : Int)) = true := decide_eq_true c7
        clear c7
        by_cases c8 : (rdOf ByteArray.empty l0 x13_1).toList = (rdOf ByteArray.empty l1 x13_1).toList
        ·rw [if_pos c8] at H
         have c8b0 : ((rdOf ByteArray.empty l0 x13_1).toList == (rdOf ByteArray.empty l1 x13_1).toList) = true := beq_iff_eq.mpr c8
         have c8b1 : ((rdOf ByteArray.empty l0 x13_1).toList != (rdOf ByteArray.empty l1 x13_1).toList) = false := bne_eq_false_iff_eq.mpr c8
         clear c8
         have H' := Aside0.mk H
         clear H
         have p453 : 0 ≤ (x13_1 : Int) := of_decide_eq_true (Z8)
         have q453 : x13_1 < (l0.length : Int) := of_decide_eq_true (Z8)
         obtain ⟨ad453, e453, hx453_0⟩ := Kd.at_string HR0.out x13_1 p453 q453
         cases e453
         replace p453 := eq_true p453
         replace q453 := eq_true q453
         have p454 : 0 ≤ (x13_1 : Int) := of_decide_eq_true (Z8)
         have q454 : x13_1 < (l1.length : Int) := of_decide_eq_true (Z8)
         obtain ⟨ad454, e454, hx454_0⟩ := Kd.at_string HR1.out x13_1 p454 q454
         cases e454
         replace p454 := eq_true p454
         replace q454 := eq_true q454
         go_wp2
         repeat (go_quiet (fail); try go_wp2)
         go_roundg k1
         case measure => have := HK1.out; omega
         case rel => exact ⟨(wrap64 (x13_1 + 1)), (Z10), H', ⟨Z100⟩, Z17⟩
        rw [if_neg c8] at H
        have c8b0 : ((rdOf ByteArray.empty l0 x13_1).toList == (rdOf ByteArray.empty l1 x13_1).toList) = false := beq_eq_false_iff_ne.mpr c8
        have c8b1 : ((rdOf ByteArray.empty l0 x13_1).toList != (rdOf ByteArray.empty l1 x13_1).toList) = true := bne_iff_ne.mpr c8
        obtain rfl := Option.some.inj H
        have p453 : 0 ≤ (x13_1 : Int) := of_decide_eq_true (Z8)
        have q453 : x13_1 < (l0.length : Int) := of_decide_eq_true (Z8)
        obtain ⟨ad453, e453, hx453_0⟩ := Kd.at_string HR0.out x13_1 p453 q453
        cases e453
        replace p453 := eq_true p453
        replace q453 := eq_true q453
        have p454 : 0 ≤ (x13_1 : Int) := of_decide_eq_true (Z8)
        have q454 : x13_1 < (l1.length : Int) := of_decide_eq_true (Z8)
        obtain ⟨ad454, e454, hx454_0⟩ := Kd.at_string HR1.out x13_1 p454 q454
        cases e454
        replace p454 := eq_true p454
        replace q454 := eq_true q454
        go_wp2
        repeat (go_quiet (fail); try go_wp2)
        go_ret
        exact ⟨Z10, Z17⟩
       rw [if_neg c7] at H
       exact absurd H (by simp)
      rw [if_neg c6] at H
      exact absurd H (by simp)
     rw [if_neg c5] at H
     exact absurd H (by simp)
    rw [if_neg c4] at H
    have c4b0 : decide (x13_1 < (l0.length : Int)) = false := decide_eq_false c4
    clear c4
    obtain rfl := Option.some.inj H
    go_wp2
    repeat (go_quiet (fail); try go_wp2)
    go_ret
    exact ⟨Z10, Z17⟩
 rw [if_neg c3] at H
 have c3b0 : ((l0.length : Int) == (l1.length : Int)) = false := beq_eq_false_iff_ne.mpr c3
 have c3b1 : ((l0.length : Int) != (l1.length : Int)) = true := bne_iff_ne.mpr c3
 have c3b2 : (l0.length == l1.length) = false := by first | simpa using c3 | (simp at c3 ⊢; omega)
 obtain rfl := Option.some.inj H
 go_enter Try.func9, Try.ntmps9
 go_wp2
 repeat (go_quiet (fail); try go_wp2)
 go_ret
 exact ⟨Z10, Z17⟩

/-! ### impl_sameSize: function 54 -/
def impl_sameSize.f (k : Nat) (l0 : List ByteArray) (l1 : List ByteArray) : Option (Bool) := (impl_IsScan.f k l0).bind fun t455 => (if t455 = true then ((impl_IsScan.f k l1).bind fun t456 => (if t456 = true then (if (l0.length : Int) = (l1.length : Int) then (if 0 < (l0.length : Int) then (if 0 < (l1.length : Int) then (some (((rdOf ByteArray.empty l0 0).size : Int) == ((rdOf ByteArray.empty l1 0).size : Int))) else (none)) else (none)) else (some false)) else (some false))) else (some false))
theorem impl_sameSize.mono : ∀ a0 a1 k, LeO (impl_sameSize.f k a0 a1) (impl_sameSize.f (k + 1) a0 a1) := by
 intro a0 a1 k
 unfold impl_sameSize.f
 exact mo11_
set_option maxHeartbeats 8000000 in
set_option maxRecDepth 100000 in
theorem impl_sameSize.calls (k : Nat) (A0 : Option Addr) (c0 : Nat) (l0 : List ByteArray) (A1 : Option Addr) (c1 : Nat) (l1 : List ByteArray) (r : Bool) (w : World) (hr0 : Kd.C Kd.string w A0 l0.length l0) (hc0 : l0.length ≤ c0) (hr1 : Kd.C Kd.string w A1 l1.length l1) (hc1 : l1.length ≤ c1) (h : impl_sameSize.f k l0 l1 = some r) :
  Calls Try.prog 54 #[.slice A0 l0.length c0, .slice A1 l1.length c1] w fun e w' => e = .returned (.bool r) ∧ Drawn0 w w' := by
 have HR0 := Aside0.mk hr0
 have HC0 := Aside0.mk hc0
 clear hr0 hc0
 have HR1 := Aside0.mk hr1
 have HC1 := Aside0.mk hc1
 clear hr1 hc1
 have H : ((impl_IsScan.f k l0).bind fun t455 => (if t455 = true then ((impl_IsScan.f k l1).bind fun t456 => (if t456 = true then (if (l0.length : Int) = (l1.length : Int) then (if 0 < (l0.length : Int) then (if 0 < (l1.length : Int) then (some (((rdOf ByteArray.empty l0 0).size : Int) == ((rdOf ByteArray.empty l1 0).size : Int))) else (none)) else (none)) else (some false)) else (some false))) else (some false))) = some r := h
 clear h
 replace H := Option.bind_eq_some_iff.mp H
 obtain ⟨t455, A30, H⟩ := H
 (try dsimp only at H)
 have A3 := Aside0.mk A30
 clear A30
 by_cases c4 : t455 = true
 ·subst c4
  rw [if_pos rfl] at H
  replace H := Option.bind_eq_some_iff.mp H
  obtain ⟨t456, A50, H⟩ := H
  (try dsimp only at H)
  have A5 := Aside0.mk A50
  clear A50
  by_cases c6 : t456 = true
  ·subst c6
   rw [if_pos rfl] at H
   by_cases c7 : (l0.length : Int) = (l1.length : Int)
   ·rw [if_pos c7] at H
    have c7b0 : ((l0.length : Int) == (l1.length : Int)) = true := beq_iff_eq.mpr c7
    have c7b1 : ((l0.length : Int) != (l1.length : Int)) = false := bne_eq_false_iff_eq.mpr c7
    have c7b2 : (l0.length == l1.length) = true := by first | simpa using c7 | (simp at c7 ⊢; omega)
    clear c7
    by_cases c8 : 0 < (l0.length : Int)
    ·rw [if_pos c8] at H
     have c8b0 : decide (0 < (l0.length : Int)) = true := decide_eq_true c8
     have c8b1 : decide (0 < l0.length) = true := decide_eq_true (by omega)
     clear c8
     by_cases c9 : 0 < (l1.length : Int)
     ·rw [if_pos c9] at H
      have c9b0 : decide (0 < (l1.length : Int)) = true := decide_eq_true c9
      have c9b1 : decide (0 < l1.length) = true := decide_eq_true (by omega)
      clear c9
      obtain rfl := Option.some.inj H
      go_enter Try.func54, Try.ntmps54
      go_wp2_with (first | (go_at_call 47; (with_reducible refine (impl_IsScan.calls k _ _ l0 true _ ?_ ?_ A3.out).mono ?_); exact Z9 HR0.out; exact HC0.out; rintro e w' ⟨rfl, ⟨nd, rfl⟩⟩; (try first | exact ⟨rfl, _, World.drewN_drewN _ _ _⟩ | exact ⟨rfl, _, Eq.trans (World.drewN_drewN _ _ _) (congrArg (World.drewN _) (Nat.add_assoc _ _ _))⟩)) | (go_at_call 47; (with_reducible refine (impl_IsScan.calls k _ _ l1 true _ ?_ ?_ A5.out).mono ?_); exact Z9 HR1.out; exact HC1.out; rintro e w' ⟨rfl, ⟨nd, rfl⟩⟩; (try first | exact ⟨rfl, _, World.drewN_drewN _ _ _⟩ | exact ⟨rfl, _, Eq.trans (World.drewN_drewN _ _ _) (congrArg (World.drewN _) (Nat.add_assoc _ _ _))⟩); have p457 : 0 ≤ (0 : Int) := (by omega); have q457 : 0 < (l0.length : Int) := of_decide_eq_true (Z8); obtain ⟨ad457, e457, hx457_0⟩ := Kd.at_string HR0.out 0 p457 q457; cases e457; have qi457 : (0 < l0.length) = True := eq_true (by omega); (try rw [show ((0 : Int)).toNat = 0 from rfl] at hx457_0); (try rw [Addr.add_zero'] at hx457_0); replace p457 := eq_true p457; replace q457 := eq_true q457; have p458 : 0 ≤ (0 : Int) := (by omega); have q458 : 0 < (l1.length : Int) := of_decide_eq_true (Z8); obtain ⟨ad458, e458, hx458_0⟩ := Kd.at_string HR1.out 0 p458 q458; cases e458; have qi458 : (0 < l1.length) = True := eq_true (by omega); (try rw [show ((0 : Int)).toNat = 0 from rfl] at hx458_0); (try rw [Addr.add_zero'] at hx458_0); replace p458 := eq_true p458; replace q458 := eq_true q458))
      repeat (go_quiet (first | (go_at_call 47; (with_reducible refine (impl_IsScan.calls k _ _ l0 true _ ?_ ?_ A3.out).mono ?_); exact Z9 HR0.out; exact HC0.out; rintro e w' ⟨rfl, ⟨nd, rfl⟩⟩; (try first | exact ⟨rfl, _, World.drewN_drewN _ _ _⟩ | exact ⟨rfl, _, Eq.trans (World.drewN_drewN _ _ _) (congrArg (World.drewN _) (Nat.add_assoc _ _ _))⟩)) | (go_at_call 47; (with_reducible refine (impl_IsScan.calls k _ _ l1 true _ ?_ ?_ A5.out).mono ?_); exact Z9 HR1.out; exact HC1.out; rintro e w' ⟨rfl, ⟨nd, rfl⟩⟩; (try first | exact ⟨rfl, _, World.drewN_drewN _ _ _⟩ | exact ⟨rfl, _, Eq.trans (World.drewN_drewN _ _ _) (congrArg (World.drewN _) (Nat.add_assoc _ _ _))⟩); have p457 : 0 ≤ (0 : Int) := (by omega); have q457 : 0 < (l0.length : Int) := of_decide_eq_true (Z8); obtain ⟨ad457, e457, hx457_0⟩ := Kd.at_string HR0.out 0 p457 q457; cases e457; have qi457 : (0 < l0.length) = True := eq_true (by omega); (try rw [show ((0 : Int)).toNat = 0 from rfl] at hx457_0); (try rw [Addr.add_zero'] at hx457_0); replace p457 := eq_true p457; replace q457 := eq_true q457; have p458 : 0 ≤ (0 : Int) := (by omega); have q458 : 0 < (l1.length : Int) := of_decide_eq_true (Z8); obtain ⟨ad458, e458, hx458_0⟩ := Kd.at_string HR1.out 0 p458 q458; cases e458; have qi458 : (0 < l1.length) = True := eq_true (by omega); (try rw [show ((0 : Int)).toNat = 0 from rfl] at hx458_0); (try rw [Addr.add_zero'] at hx458_0); replace p458 := eq_true p458; replace q458 := eq_true q458)); try go_wp2_with (first | (go_at_call 47; (with_reducible refine (impl_IsScan.calls k _ _ l0 true _ ?_ ?_ A3.out).mono ?_); exact Z9 HR0.out; exact HC0.out; rintro e w' ⟨rfl, ⟨nd, rfl⟩⟩; (try first | exact ⟨rfl, _, World.drewN_drewN _ _ _⟩ | exact ⟨rfl, _, Eq.trans (World.drewN_drewN _ _ _) (congrArg (World.drewN _) (Nat.add_assoc _ _ _))⟩)) | (go_at_call 47; (with_reducible refine (impl_IsScan.calls k _ _ l1 true _ ?_ ?_ A5.out).mono ?_); exact Z9 HR1.out; exact HC1.out; rintro e w' ⟨rfl, ⟨nd, rfl⟩⟩; (try first | exact ⟨rfl, _, World.drewN_drewN _ _ _⟩ | exact ⟨rfl, _, Eq.trans (World.drewN_drewN _ _ _) (congrArg (World.drewN _) (Nat.add_assoc _ _ _))⟩); have p457 : 0 ≤ (0 : Int) := (by omega); have q457 : 0 < (l0.length : Int) := of_decide_eq_true (Z8); obtain ⟨ad457, e457, hx457_0⟩ := Kd.at_string HR0.out 0 p457 q457; cases e457; have qi457 : (0 < l0.length) = True := eq_true (by omega); (try rw [show ((0 : Int)).toNat = 0 from rfl] at hx457_0); (try rw [Addr.add_zero'] at hx457_0); replace p457 := eq_true p457; replace q457 := eq_true q457; have p458 : 0 ≤ (0 : Int) := (by omega); have q458 : 0 < (l1.length : Int) := of_decide_eq_true (Z8); obtain ⟨ad458, e458, hx458_0⟩ := Kd.at_string HR1.out 0 p458 q458; cases e458; have qi458 : (0 < l1.length) = True := eq_true (by omega); (try rw [show ((0 : Int)).toNat = 0 from rfl] at hx458_0); (try rw [Addr.add_zero'] at hx458_0); replace p458 := eq_true p458; replace q458 := eq_true q458)))
      go_ret
      exact ⟨Z10, Z17⟩
     rw [if_neg c9] at H
     exact absurd H (by simp)
    rw [if_neg c8] at H
    exact absurd H (by simp)
   rw [if_neg c7] at H
   have c7b0 : ((l0.length : Int) == (l1.length : Int)) = false := beq_eq_false_iff_ne.mpr c7
   have c7b1 : ((l0.length : Int) != (l1.length : Int)) = true := bne_iff_ne.mpr c7
   have c7b2 : (l0.length == l1.length) = false := by first | simpa using c7 | (simp at c7 ⊢; omega)
   obtain rfl := Option.some.inj H
   go_enter Try.func54, Try.ntmps54
   go_wp2_with (first | (go_at_call 47; (with_reducible refine (impl_IsScan.calls k _ _ l0 true _ ?_ ?_ A3.out).mono ?_); exact Z9 HR0.out; exact HC0.out; rintro e w' ⟨rfl, ⟨nd, rfl⟩⟩; (try first | exact ⟨rfl, _, World.drewN_drewN _ _ _⟩ | exact ⟨rfl, _, Eq.trans (World.drewN_drewN _ _ _) (congrArg (World.drewN _) (Nat.add_assoc _ _ _))⟩)) | (go_at_call 47; (with_reducible refine (impl_IsScan.calls k _ _ l1 true _ ?_ ?_ A5.out).mono ?_); exact Z9 HR1.out; exact HC1.out; rintro e w' ⟨rfl, ⟨nd, rfl⟩⟩; (try first | exact ⟨rfl, _, World.drewN_drewN _ _ _⟩ | exact ⟨rfl, _, Eq.trans (World.drewN_drewN _ _ _) (congrArg (World.drewN _) (Nat.add_assoc _ _ _))⟩)))
   repeat (go_quiet (first | (go_at_call 47; (with_reducible refine (impl_IsScan.calls k _ _ l0 true _ ?_ ?_ A3.out).mono ?_); exact Z9 HR0.out; exact HC0.out; rintro e w' ⟨rfl, ⟨nd, rfl⟩⟩; (try first | exact ⟨rfl, _, World.drewN_drewN _ _ _⟩ | exact ⟨rfl, _, Eq.trans (World.drewN_drewN _ _ _) (congrArg (World.drewN _) (Nat.add_assoc _ _ _))⟩)) | (go_at_call 47; (with_reducible refine (impl_IsScan.calls k _ _ l1 true _ ?_ ?_ A5.out).mono ?_); exact Z9 HR1.out; exact HC1.out; rintro e w' ⟨rfl, ⟨nd, rfl⟩⟩; (try first | exact ⟨rfl, _, World.drewN_drewN _ _ _⟩ | exact ⟨rfl, _, Eq.trans (World.drewN_drewN _ _ _) (congrArg (World.drewN _) (Nat.add_assoc _ _ _))⟩))); try go_wp2_with (first | (go_at_call 47; (with_reducible refine (impl_IsScan.calls k _ _ l0 true _ ?_ ?_ A3.out).mono ?_); exact Z9 HR0.out; exact HC0.out; rintro e w' ⟨rfl, ⟨nd, rfl⟩⟩; (try first | exact ⟨rfl, _, World.drewN_drewN _ _ _⟩ | exact ⟨rfl, _, Eq.trans (World.drewN_drewN _ _ _) (congrArg (World.drewN _) (Nat.add_assoc _ _ _))⟩)) | (go_at_call 47; (with_reducible refine (impl_IsScan.calls k _ _ l1 true _ ?_ ?_ A5.out).mono ?_); exact Z9 HR1.out; exact HC1.out; rintro e w' ⟨rfl, ⟨nd, rfl⟩⟩; (try first | exact ⟨rfl, _, World.drewN_drewN _ _ _⟩ | exact ⟨rfl, _, Eq.trans (World.drewN_drewN _ _ _) (congrArg (World.drewN _) (Nat.add_assoc _ _ _))⟩))))
   go_ret
   exact ⟨Z10, Z17⟩
  replace c6 := Bool.eq_false_iff.mpr c6
  subst c6
  rw [if_neg (show ¬ (false = true) by decide)] at H
  obtain rfl := Option.some.inj H
  go_enter Try.func54, Try.ntmps54
  go_wp2_with (first | (go_at_call 47; (with_reducible refine (impl_IsScan.calls k _ _ l0 true _ ?_ ?_ A3.out).mono ?_); exact Z9 HR0.out; exact HC0.out; rintro e w' ⟨rfl, ⟨nd, rfl⟩⟩; (try first | exact ⟨rfl, _, World.drewN_drewN _ _ _⟩ | exact ⟨rfl, _, Eq.trans (World.drewN_drewN _ _ _) (congrArg (World.drewN _) (Nat.add_assoc _ _ _))⟩)) | (go_at_call 47; (with_reducible refine (impl_IsScan.calls k _ _ l1 false _ ?_ ?_ A5.out).mono ?_); exact Z9 HR1.out; exact HC1.out; rintro e w' ⟨rfl, ⟨nd, rfl⟩⟩; (try first | exact ⟨rfl, _, World.drewN_drewN _ _ _⟩ | exact ⟨rfl, _, Eq.trans (World.drewN_drewN _ _ _) (congrArg (World.drewN _) (Nat.add_assoc _ _ _))⟩)))
  repeat (go_quiet (first | (go_at_call 47; (with_reducible refine (impl_IsScan.calls k _ _ l0 true _ ?_ ?_ A3.out).mono ?_); exact Z9 HR0.out; exact HC0.out; rintro e w' ⟨rfl, ⟨nd, rfl⟩⟩; (try first | exact ⟨rfl, _, World.drewN_drewN _ _ _⟩ | exact ⟨rfl, _, Eq.trans (World.drewN_drewN _ _ _) (congrArg (World.drewN _) (Nat.add_assoc _ _ _))⟩)) | (go_at_call 47; (with_reducible refine (impl_IsScan.calls k _ _ l1 false _ ?_ ?_ A5.out).mono ?_); exact Z9 HR1.out; exact HC1.out; rintro e w' ⟨rfl, ⟨nd, rfl⟩⟩; (try first | exact ⟨rfl, _, World.drewN_drewN _ _ _⟩ | exact ⟨rfl, _, Eq.trans (World.drewN_drewN _ _ _) (congrArg (World.drewN _) (Nat.add_assoc _ _ _))⟩))); try go_wp2_with (first | (go_at_call 47; (with_reducible refine (impl_IsScan.calls k _ _ l0 true _ ?_ ?_ A3.out).mono ?_); exact Z9 HR0.out; exact HC0.out; rintro e w' ⟨rfl, ⟨nd, rfl⟩⟩; (try first | exact ⟨rfl, _, World.drewN_drewN _ _ _⟩ | exact ⟨rfl, _, Eq.trans (World.drewN_drewN _ _ _) (congrArg (World.drewN _) (Nat.add_assoc _ _ _))⟩)) | (go_at_call 47; (with_reducible refine (impl_IsScan.calls k _ _ l1 false _ ?_ ?_ A5.out).mono ?_); exact Z9 HR1.out; exact HC1.out; rintro e w' ⟨rfl, ⟨nd, rfl⟩⟩; (try first | exact ⟨rfl, _, World.drewN_drewN _ _ _⟩ | exact ⟨rfl, _, Eq.trans (World.drewN_drewN _ _ _) (congrArg (World.drewN _) (Nat.add_assoc _ _ _))⟩))))
  go_ret
  exact ⟨Z10, Z17⟩
 replace c4 := Bool.eq_false_iff.mpr c4
 subst c4
 rw [if_neg (show ¬ (false = true) by decide)] at H
 obtain rfl := Option.some.inj H
 go_enter Try.func54, Try.ntmps54
 go_wp2_with (first | (go_at_call 47; (with_reducible refine (impl_IsScan.calls k _ _ l0 false _ ?_ ?_ A3.out).mono ?_); exact Z9 HR0.out; exact HC0.out; rintro e w' ⟨rfl, ⟨nd, rfl⟩⟩; (try first | exact ⟨rfl, _, World.drewN_drewN _ _ _⟩ | exact ⟨rfl, _, Eq.trans (World.drewN_drewN _ _ _) (congrArg (World.drewN _) (Nat.add_assoc _ _ _))⟩)))
 repeat (go_quiet (first | (go_at_call 47; (with_reducible refine (impl_IsScan.calls k _ _ l0 false _ ?_ ?_ A3.out).mono ?_); exact Z9 HR0.out; exact HC0.out; rintro e w' ⟨rfl, ⟨nd, rfl⟩⟩; (try first | exact ⟨rfl, _, World.drewN_drewN _ _ _⟩ | exact ⟨rfl, _, Eq.trans (World.drewN_drewN _ _ _) (congrArg (World.drewN _) (Nat.add_assoc _ _ _))⟩))); try go_wp2_with (first | (go_at_call 47; (with_reducible refine (impl_IsScan.calls k _ _ l0 false _ ?_ ?_ A3.out).mono ?_); exact Z9 HR0.out; exact HC0.out; rintro e w' ⟨rfl, ⟨nd, rfl⟩⟩; (try first | exact ⟨rfl, _, World.drewN_drewN _ _ _⟩ | exact ⟨rfl, _, Eq.trans (World.drewN_drewN _ _ _) (congrArg (World.drewN _) (Nat.add_assoc _ _ _))⟩))))
 go_ret
 exact ⟨Z10, Z17⟩

/-! ### impl_scanFaults: function 55 -/
mutual
def impl_scanFaults.l0 : Nat → List ByteArray → List ByteArray → Int → Int → Int → Option (Int)
 | 0, _, _, _, _, _ => none
 | k + 1, x0, x1, x5, x9, x10 => if x10 < x9 then (if 0 ≤ x10 then (if x10 < (x0.length : Int) then (impl_scanFaults.l1 k x0 x1 x5 x10 x9 x10 ((rdOf ByteArray.empty x0 x10).size : Int) 0) else (none)) else (none)) else (some x5)
def impl_scanFaults.l1 : Nat → List ByteArray → List ByteArray → Int → Int → Int → Int → Int → Int → Option (Int)
 | 0, _, _, _, _, _, _, _, _ => none
 | k + 1, x0, x1, x5, x6, x9, x10, x17, x18 => if x18 < x17 then (if 0 ≤ x6 then (if x6 < (x0.length : Int) then (if 0 ≤ x18 then (if x18 < ((rdOf ByteArray.empty x0 x6).size : Int) then (if x6 < (x1.length : Int) then (if x18 < ((rdOf ByteArray.empty x1 x6).size : Int) then (if (bt (rdOf ByteArray.empty x0 x6) x18) = (bt (rdOf ByteArray.empty x1 x6) x18) then (impl_scanFaults.l1 k x0 x1 x5 x6 x9 x10 x17 (wrap64 (x18 + 1))) else (if (bt (rdOf ByteArray.empty x0 x6) x18) = 63 then (impl_scanFaults.l1 k x0 x1 x5 x6 x9 x10 x17 (wrap64 (x18 + 1))) else (if (bt (rdOf ByteArray.empty x1 x6) x18) = 63 then (impl_scanFaults.l1 k x0 x1 x5 x6 x9 x10 x17 (wrap64 (x18 + 1))) else (impl_scanFaults.l1 k x0 x1 (wrap64 (x5 + 1)) x6 x9 x10 x17 (wrap64 (x18 + 1)))))) else (none)) else (none)) else (none)) else (none)) else (none)) else (none)) else (impl_scanFaults.l0 k x0 x1 x5 x9 (wrap64 (x10 + 1)))
end
def impl_scanFaults.f (k : Nat) (l0 : List ByteArray) (l1 : List ByteArray) : Option (Int) := impl_scanFaults.l0 k l0 l1 0 (l0.length : Int) 0
theorem impl_scanFaults.mono_l : ∀ k, (∀ y0 y1 y2 y3 y4, LeO (impl_scanFaults.l0 k y0 y1 y2 y3 y4) (impl_scanFaults.l0 (k + 1) y0 y1 y2 y3 y4)) ∧ (∀ y0 y1 y2 y3 y4 y5 y6 y7, LeO (impl_scanFaults.l1 k y0 y1 y2 y3 y4 y5 y6 y7) (impl_scanFaults.l1 (k + 1) y0 y1 y2 y3 y4 y5 y6 y7))
 | 0 => ⟨fun _ _ _ _ _ r h => by simp [impl_scanFaults.l0] at h, fun _ _ _ _ _ _ _ _ r h => by simp [impl_scanFaults.l1] at h⟩
 | k + 1 => by
  obtain ⟨ih0, ih1⟩ := impl_scanFaults.mono_l k
  refine ⟨?_, ?_⟩
  ·intro y0 y1 y2 y3 y4
   unfold impl_scanFaults.l0
   exact mo11_
  intro y0 y1 y2 y3 y4 y5 y6 y7
  unfold impl_scanFaults.l1
  exact mo11_
theorem impl_scanFaults.mono : ∀ a0 a1 k, LeO (impl_scanFaults.f k a0 a1) (impl_scanFaults.f (k + 1) a0 a1) := by
 intro a0 a1 k
 obtain ⟨ih0, ih1⟩ := impl_scanFaults.mono_l k
 unfold impl_scanFaults.f
 exact mo11_
set_option maxHeartbeats 8000000 in
set_option maxRecDepth 100000 in
theorem impl_scanFaults.calls (k : Nat) (A0 : Option Addr) (c0 : Nat) (l0 : List ByteArray) (A1 : Option Addr) (c1 : Nat) (l1 : List ByteArray) (r : Int) (w : World) (hr0 : Kd.C Kd.string w A0 l0.length l0) (hc0 : l0.length ≤ c0) (hr1 : Kd.C Kd.string w A1 l1.length l1) (hc1 : l1.length ≤ c1) (h : impl_scanFaults.f k l0 l1 = some r) :
  Calls Try.prog 55 #[.slice A0 l0.length c0, .slice A1 l1.length c1] w fun e w' => e = .returned (.int .i64 r) ∧ Drawn0 w w' := by
 have HR0 := Aside0.mk hr0
 have HC0 := Aside0.mk hc0
 clear hr0 hc0
 have HR1 := Aside0.mk hr1
 have HC1 := Aside0.mk hc1
 clear hr1 hc1
 have H : (impl_scanFaults.l0 k l0 l1 0 (l0.length : Int) 0) = some r := h
 clear h
 have H' := Aside0.mk H
 clear H
 go_enter Try.func55, Try.ntmps55
 go_wp2
 repeat (go_quiet (fail); try go_wp2)
 go_loopg [5, 10] k (fun kq v5 v10 w' => ∃ (x5_1 : Int) (x10_1 : Int), v5 = .int .i64 x5_1 ∧ v10 = .int .i64 x10_1 ∧ Aside0 (impl_scanFaults.l0 kq l0 l1 x5_1 (l0.length : Int) x10_1 = some r) ∧ Aside0 (kq ≤ k) ∧ Drawn0 w w')
 case atStart => exact ⟨(0), (0), (Z10), (Z10), H', ⟨Nat.le_refl _⟩, Z17⟩
 case round =>
  clear H'
  (try clear c1); (try clear p2)
  obtain ⟨x5_1, x10_1, rfl, rfl, HA, HK1, ⟨m1, rfl⟩⟩ := hrel
  cases gk with
  | zero => exact absurd HA.out (by simp [impl_scanFaults.l0])
  | succ k1 =>
   have H := HA.out
   clear HA
   simp only [impl_scanFaults.l0] at H
   by_cases c3 : x10_1 < (l0.length : Int)
   ·rw [if_pos c3] at H
    have c3b0 : decide (x10_1 < (l0.length : Int)) = true := decide_eq_true c3
    clear c3
    by_cases c4 : 0 ≤ x10_1
    ·rw [if_pos c4] at H
     have c4b0 : decide (0 ≤ x10_1) = true := decide_eq_true c4
     clear c4
     by_cases c5 : x10_1 < (l0.length : Int)
     ·rw [if_pos c5] at H
      have c5b0 : decide (x10_1 < (l0.length : Int)) = true := decide_eq_true c5
      clear c5
      have H' := Aside0.mk H
      clear H
      have p459 : 0 ≤ (x10_1 : Int) := of_decide_eq_true (Z8)
      have q459 : x10_1 < (l0.length : Int) := of_decide_eq_true (Z8)
      obtain ⟨ad459, e459, hx459_0⟩ := Kd.at_string HR0.out x10_1 p459 q459
      cases e459
      replace p459 := eq_true p459
      replace q459 := eq_true q459
      go_wp2
      repeat (go_quiet (fail); try go_wp2)
      go_loopg [5, 18] k1 (fun kq v5 v18 w' => ∃ (x5_2 : Int) (x18_2 : Int), v5 = .int .i64 x5_2 ∧ v18 = .int .i64 x18_2 ∧ Aside0 (impl_scanFaults.l1 kq l0 l1 x5_2 x10_1 (l0.length : Int) x10_1 ((rdOf ByteArray.empty l0 x10_1).size : Int) x18_2 = some r) ∧ Aside0 (kq ≤ k1) ∧ Drawn0 w w')
      case atStart => exact ⟨(x5_1), (0), (Z10), (Z10), H', ⟨Nat.le_refl _⟩, Z17⟩
      case round =>
       clear H'
       (try clear c3); (try clear c3b0); (try clear c4); (try clear c4b0); (try clear p4); (try clear q4); (try clear hx4); (try clear c5); (try clear c5b0); (try clear hx459_0); (try clear p459); (try clear q459)
       obtain ⟨x5_2, x18_2, rfl, rfl, HA, HK2, ⟨m2, rfl⟩⟩ := hrel
       cases gk with
       | zero => exact absurd HA.out (by simp [impl_scanFaults.l1])
       | succ k2 =>
        have H := HA.out
        clear HA
        simp only [impl_scanFaults.l1] at H
        by_cases c6 : x18_2 < ((rdOf ByteArray.empty l0 x10_1).size : Int)
        ·rw [if_pos c6] at H
         have c6b0 : decide (x18_2 < ((rdOf ByteArray.empty l0 x10_1).size : Int)) = true := decide_eq_true c6
         clear c6
         by_cases c7 : 0 ≤ x10_1
         ·rw [if_pos c7] at H
          have c7b0 : decide (0 ≤ x10_1) = true := decide_eq_true c7
          clear c7
          by_cases c8 : x10_1 < (l0.length : Int)
          ·rw [if_pos c8] at H
           have c8b0 : decide (x10_1 < (l0.length : Int)) = true := decide_eq_true c8
           clear c8
           by_cases c9 : 0 ≤ x18_2
           ·rw [if_pos c9] at H
            have c9b0 : decide (0 ≤ x18_2) = true := decide_eq_true c9
            clear c9
            by_cases c10 : x18_2 < ((rdOf ByteArray.empty l0 x10_1).size : Int)
            ·rw [if_pos c10] at H
             have c10b0 : decide (x18_2 < ((rdOf ByteArray.empty l0 x10_1).size : Int)) = true := decide_eq_true c10
             clear c10
             by_cases c12 : x10_1 < (l1.length : Int)
             ·rw [if_pos c12] at H
              have c12b0 : decide (x10_1 < (l1.length : Int)) = true := decide_eq_true c12
              clear c12
              by_cases c13 : x18_2 < ((rdOf ByteArray.empty l1 x10_1).size : Int)
              ·rw [if_pos c13] at H
               have c13b0 : decide (x18_2 < ((rdOf ByteArray.empty l1 x10_1).size : Int)) = true := decide_eq_true c13
               clear c13
               by_cases c15 : (bt (rdOf ByteArray.empty l0 x10_1) x18_2) = (bt (rdOf ByteArray.empty l1 x10_1) x18_2)
               ·rw [if_pos c15] at H
                have c15b0 : ((bt (rdOf ByteArray.empty l0 x10_1) x18_2) == (bt (rdOf ByteArray.empty l1 x10_1) x18_2)) = true := beq_iff_eq.mpr c15
                have c15b1 : ((bt (rdOf ByteArray.empty l0 x10_1) x18_2) != (bt (rdOf ByteArray.empty l1 x10_1) x18_2)) = false := bne_eq_false_iff_eq.mpr c15
                clear c15
                have H' := Aside0.mk H
                clear H
                have p460 : 0 ≤ (x10_1 : Int) := of_decide_eq_true (Z8)
                have q460 : x10_1 < (l0.length : Int) := of_decide_eq_true (Z8)
                obtain ⟨ad460, e460, hx460_0⟩ := Kd.at_string HR0.out x10_1 p460 q460
                obtain rfl : ad459 = ad460 := (by injection e460)
                replace p460 := eq_true p460
                replace q460 := eq_true q460
                have p11 : 0 ≤ (x18_2 : Int) := of_decide_eq_true (Z8)
                have q11 : x18_2 < ((rdOf ByteArray.empty l0 x10_1).size : Int) := of_decide_eq_true (Z8)
                have hx11 := bt_at (rdOf ByteArray.empty l0 x10_1) x18_2
                replace p11 := eq_true p11
                replace q11 := eq_true q11
                have p461 : 0 ≤ (x10_1 : Int) := of_decide_eq_true (Z8)
                have q461 : x10_1 < (l1.length : Int) := of_decide_eq_true (Z8)
                obtain ⟨ad461, e461, hx461_0⟩ := Kd.at_string HR1.out x10_1 p461 q461
                cases e461
                replace p461 := eq_true p461
                replace q461 := eq_true q461
                have p14 : 0 ≤ (x18_2 : Int) := of_decide_eq_true (Z8)
                have q14 : x18_2 < ((rdOf ByteArray.empty l1 x10_1).size : Int) := of_decide_eq_true (Z8)
                have hx14 := bt_at (rdOf ByteArray.empty l1 x10_1) x18_2
                replace p14 := eq_true p14
                replace q14 := eq_true q14
                go_wp2
                repeat (go_quiet (fail); try go_wp2)
                go_roundg k2
                case measure => have := HK1.out; have := HK2.out; omega
                case rel => exact ⟨(x5_2), (wrap64 (x18_2 + 1)), (Z10), (Z10), H', ⟨Z47⟩, Z17⟩
               rw [if_neg c15] at H
               have c15b0 : ((bt (rdOf ByteArray.empty l0 x10_1) x18_2) == (bt (rdOf ByteArray.empty l1 x10_1) x18_2)) = false := beq_eq_false_iff_ne.mpr c15
               have c15b1 : ((bt (rdOf ByteArray.empty l0 x10_1) x18_2) != (bt (rdOf ByteArray.empty l1 x10_1) x18_2)) = true := bne_iff_ne.mpr c15
               by_cases c17 : (bt (rdOf ByteArray.empty l0 x10_1) x18_2) = 63
               ·rw [if_pos c17] at H
                have c17b0 : ((bt (rdOf ByteArray.empty l0 x10_1) x18_2) == 63) = true := beq_iff_eq.mpr c17
                have c17b1 : ((bt (rdOf ByteArray.empty l0 x10_1) x18_2) != 63) = false := bne_eq_false_iff_eq.mpr c17
                clear c17
                have H' := Aside0.mk H
                clear H
                have p460 : 0 ≤ (x10_1 : Int) := of_decide_eq_true (Z8)
                have q460 : x10_1 < (l0.length : Int) := of_decide_eq_true (Z8)
                obtain ⟨ad460, e460, hx460_0⟩ := Kd.at_string HR0.out x10_1 p460 q460
                obtain rfl : ad459 = ad460 := (by injection e460)
                replace p460 := eq_true p460
                replace q460 := eq_true q460
                have p11 : 0 ≤ (x18_2 : Int) := of_decide_eq_true (Z8)
                have q11 : x18_2 < ((rdOf ByteArray.empty l0 x10_1).size : Int) := of_decide_eq_true (Z8)
                have hx11 := bt_at (rdOf ByteArray.empty l0 x10_1) x18_2
                replace p11 := eq_true p11
                replace q11 := eq_true q11
                have p461 : 0 ≤ (x10_1 : Int) := of_decide_eq_true (Z8)
                have q461 : x10_1 < (l1.length : Int) := of_decide_eq_true (Z8)
                obtain ⟨ad461, e461, hx461_0⟩ := Kd.at_string HR1.out x10_1 p461 q461
                cases e461
                replace p461 := eq_true p461
                replace q461 := eq_true q461
                have p14 : 0 ≤ (x18_2 : Int) := of_decide_eq_true (Z8)
                have q14 : x18_2 < ((rdOf ByteArray.empty l1 x10_1).size : Int) := of_decide_eq_true (Z8)
                have hx14 := bt_at (rdOf ByteArray.empty l1 x10_1) x18_2
                replace p14 := eq_true p14
                replace q14 := eq_true q14
                have p462 : 0 ≤ (x10_1 : Int) := of_decide_eq_true (Z8)
                have q462 : x10_1 < (l0.length : Int) := of_decide_eq_true (Z8)
                obtain ⟨ad462, e462, hx462_0⟩ := Kd.at_string HR0.out x10_1 p462 q462
                obtain rfl : ad459 = ad462 := (by injection e462)
                replace p462 := eq_true p462
                replace q462 := eq_true q462
                have p16 : 0 ≤ (x18_2 : Int) := of_decide_eq_true (Z8)
                have q16 : x18_2 < ((rdOf ByteArray.empty l0 x10_1).size : Int) := of_decide_eq_true (Z8)
                have hx16 := bt_at (rdOf ByteArray.empty l0 x10_1) x18_2
                replace p16 := eq_true p16
                replace q16 := eq_true q16
                go_wp2
                repeat (go_quiet (fail); try go_wp2)
                go_roundg k2
                case measure => have := HK1.out; have := HK2.out; omega
                case rel => exact ⟨(x5_2), (wrap64 (x18_2 + 1)), (Z10), (Z10), H', ⟨Z47⟩, Z17⟩
               rw [if_neg c17] at H
               have c17b0 : ((bt (rdOf ByteArray.empty l0 x10_1) x18_2) == 63) = false := beq_eq_false_iff_ne.mpr c17
               have c17b1 : ((bt (rdOf ByteArray.empty l0 x10_1) x18_2) != 63) = true := bne_iff_ne.mpr c17
               by_cases c19 : (bt (rdOf ByteArray.empty l1 x10_1) x18_2) = 63
               ·rw [if_pos c19] at H
                have c19b0 : ((bt (rdOf ByteArray.empty l1 x10_1) x18_2) == 63) = true := beq_iff_eq.mpr c19
                have c19b1 : ((bt (rdOf ByteArray.empty l1 x10_1) x18_2) != 63) = false := bne_eq_false_iff_eq.mpr c19
                clear c19
                have H' := Aside0.mk H
                clear H
                have p460 : 0 ≤ (x10_1 : Int) := of_decide_eq_true (Z8)
                have q460 : x10_1 < (l0.length : Int) := of_decide_eq_true (Z8)
                obtain ⟨ad460, e460, hx460_0⟩ := Kd.at_string HR0.out x10_1 p460 q460
                obtain rfl : ad459 = ad460 := (by injection e460)
                replace p460 := eq_true p460
                replace q460 := eq_true q460
                have p11 : 0 ≤ (x18_2 : Int) := of_decide_eq_true (Z8)
                have q11 : x18_2 < ((rdOf ByteArray.empty l0 x10_1).size : Int) := of_decide_eq_true (Z8)
                have hx11 := bt_at (rdOf ByteArray.empty l0 x10_1) x18_2
                replace p11 := eq_true p11
                replace q11 := eq_true q11
                have p461 : 0 ≤ (x10_1 : Int) := of_decide_eq_true (Z8)
                have q461 : x10_1 < (l1.length : Int) := of_decide_eq_true (Z8)
                obtain ⟨ad461, e461, hx461_0⟩ := Kd.at_string HR1.out x10_1 p461 q461
                cases e461
                replace p461 := eq_true p461
                replace q461 := eq_true q461
                have p14 : 0 ≤ (x18_2 : Int) := of_decide_eq_true (Z8)
                have q14 : x18_2 < ((rdOf ByteArray.empty l1 x10_1).size : Int) := of_decide_eq_true (Z8)
                have hx14 := bt_at (rdOf ByteArray.empty l1 x10_1) x18_2
                replace p14 := eq_true p14
                replace q14 := eq_true q14
                have p462 : 0 ≤ (x10_1 : Int) := of_decide_eq_true (Z8)
                have q462 : x10_1 < (l0.length : Int) := of_decide_eq_true (Z8)
                obtain ⟨ad462, e462, hx462_0⟩ := Kd.at_string HR0.out x10_1 p462 q462
                obtain rfl : ad459 = ad462 := (by injection e462)
                replace p462 := eq_true p462
                replace q462 := eq_true q462
                have p16 : 0 ≤ (x18_2 : Int) := of_decide_eq_true (Z8)
                have q16 : x18_2 < ((rdOf ByteArray.empty l0 x10_1).size : Int) := of_decide_eq_true (Z8)
                have hx16 := bt_at (rdOf ByteArray.empty l0 x10_1) x18_2
                replace p16 := eq_true p16
                replace q16 := eq_true q16
                have p463 : 0 ≤ (x10_1 : Int) := of_decide_eq_true (Z8)
                have q463 : x10_1 < (l1.length : Int) := of_decide_eq_true (Z8)
                obtain ⟨ad463, e463, hx463_0⟩ := Kd.at_string HR1.out x10_1 p463 q463
                obtain rfl : ad461 = ad463 := (by injection e463)
                replace p463 := eq_true p463
                replace q463 := eq_true q463
                have p18 : 0 ≤ (x18_2 : Int) := of_decide_eq_true (Z8)
                have q18 : x18_2 < ((rdOf ByteArray.empty l1 x10_1).size : Int) := of_decide_eq_true (Z8)
                have hx18 := bt_at (rdOf ByteArray.empty l1 x10_1) x18_2
                replace p18 := eq_true p18
                replace q18 := eq_true q18
                go_wp2
                repeat (go_quiet (fail); try go_wp2)
                go_roundg k2
                case measure => have := HK1.out; have := HK2.out; omega
                case rel => exact ⟨(x5_2), (wrap64 (x18_2 + 1)), (Z10), (Z10), H', ⟨Z47⟩, Z17⟩
               rw [if_neg c19] at H
               have c19b0 : ((bt (rdOf ByteArray.empty l1 x10_1) x18_2) == 63) = false := beq_eq_false_iff_ne.mpr c19
               have c19b1 : ((bt (rdOf ByteArray.empty l1 x10_1) x18_2) != 63) = true := bne_iff_ne.mpr c19
               have H' := Aside0.mk H
               clear H
               have p460 : 0 ≤ (x10_1 : Int) := of_decide_eq_true (Z8)
               have q460 : x10_1 < (l0.length : Int) := of_decide_eq_true (Z8)
               obtain ⟨ad460, e460, hx460_0⟩ := Kd.at_string HR0.out x10_1 p460 q460
               obtain rfl : ad459 = ad460 := (by injection e460)
               replace p460 := eq_true p460
               replace q460 := eq_true q460
               have p11 : 0 ≤ (x18_2 : Int) := of_decide_eq_true (Z8)
               have q11 : x18_2 < ((rdOf ByteArray.empty l0 x10_1).size : Int) := of_decide_eq_true (Z8)
               have hx11 := bt_at (rdOf ByteArray.empty l0 x10_1) x18_2
               replace p11 := eq_true p11
               replace q11 := eq_true q11
               have p461 : 0 ≤ (x10_1 : Int) := of_decide_eq_true (Z8)
               have q461 : x10_1 < (l1.length : Int) := of_decide_eq_true (Z8)
               obtain ⟨ad461, e461, hx461_0⟩ := Kd.at_string HR1.out x10_1 p461 q461
               cases e461
               replace p461 := eq_true p461
               replace q461 := eq_true q461
               have p14 : 0 ≤ (x18_2 : Int) := of_decide_eq_true (Z8)
               have q14 : x18_2 < ((rdOf ByteArray.empty l1 x10_1).size : Int) := of_decide_eq_true (Z8)
               have hx14 := bt_at (rdOf ByteArray.empty l1 x10_1) x18_2
               replace p14 := eq_true p14
               replace q14 := eq_true q14
               have p462 : 0 ≤ (x10_1 : Int) := of_decide_eq_true (Z8)
               have q462 : x10_1 < (l0.length : Int) := of_decide_eq_true (Z8)
               obtain ⟨ad462, e462, hx462_0⟩ := Kd.at_string HR0.out x10_1 p462 q462
               obtain rfl : ad459 = ad462 := (by injection e462)
               replace p462 := eq_true p462
               replace q462 := eq_true q462
               have p16 : 0 ≤ (x18_2 : Int) := of_decide_eq_true (Z8)
               have q16 : x18_2 < ((rdOf ByteArray.empty l0 x10_1).size : Int) := of_decide_eq_true (Z8)
               have hx16 := bt_at (rdOf ByteArray.empty l0 x10_1) x18_2
               replace p16 := eq_true p16
               replace q16 := eq_true q16
               have p463 : 0 ≤ (x10_1 : Int) := of_decide_eq_true (Z8)
               have q463 : x10_1 < (l1.length : Int) := of_decide_eq_true (Z8)
               obtain ⟨ad463, e463, hx463_0⟩ := Kd.at_string HR1.out x10_1 p463 q463
               obtain rfl : ad461 = ad463 := (by injection e463)
               replace p463 := eq_true p463
               replace q463 := eq_true q463
               have p18 : 0 ≤ (x18_2 : Int) := of_decide_eq_true (Z8)
               have q18 : x18_2 < ((rdOf ByteArray.empty l1 x10_1).size : Int) := of_decide_eq_true (Z8)
               have hx18 := bt_at (rdOf ByteArray.empty l1 x10_1) x18_2
               replace p18 := eq_true p18
               replace q18 := eq_true q18
               go_wp2
               repeat (go_quiet (fail); try go_wp2)
               go_roundg k2
               case measure => have := HK1.out; have := HK2.out; omega
               case rel => exact ⟨(wrap64 (x5_2 + 1)), (wrap64 (x18_2 + 1)), (Z10), (Z10), H', ⟨Z47⟩, Z17⟩
              rw [if_neg c13] at H
              exact absurd H (by simp)
             rw [if_neg c12] at H
             exact absurd H (by simp)
            rw [if_neg c10] at H
            exact absurd H (by simp)
           rw [if_neg c9] at H
           exact absurd H (by simp)
          rw [if_neg c8] at H
          exact absurd H (by simp)
         rw [if_neg c7] at H
         exact absurd H (by simp)
        rw [if_neg c6] at H
        have c6b0 : decide (x18_2 < ((rdOf ByteArray.empty l0 x10_1).size : Int)) = false := decide_eq_false c6
        clear c6
        have H' := Aside0.mk H
        clear H
        go_wp2
        repeat (go_quiet (fail); try go_wp2)
        go_roundg k2
        case measure => have := HK1.out; have := HK2.out; omega
        case rel => exact ⟨(x5_2), (wrap64 (x10_1 + 1)), (Z10), (Z10), H', ⟨Z47⟩, Z17⟩
     rw [if_neg c5] at H
     exact absurd H (by simp)
    rw [if_neg c4] at H
    exact absurd H (by simp)
   rw [if_neg c3] at H
   have c3b0 : decide (x10_1 < (l0.length : Int)) = false := decide_eq_false c3
   clear c3
   obtain rfl := Option.some.inj H
   go_wp2
   repeat (go_quiet (fail); try go_wp2)
   go_ret
   exact ⟨Z10, Z17⟩

/-! ### impl_AgreeScans: function 10 -/
def impl_AgreeScans.f (k : Nat) (l0 : List ByteArray) (l1 : List ByteArray) : Option (Bool × Bool) := (impl_sameSize.f k l0 l1).bind fun t464 => (if t464 = true then ((impl_scanFaults.f k l0 l1).bind fun t465 => (some ((t465 == 0), true))) else (some (false, false)))
theorem impl_AgreeScans.mono : ∀ a0 a1 k, LeO (impl_AgreeScans.f k a0 a1) (impl_AgreeScans.f (k + 1) a0 a1) := by
 intro a0 a1 k
 unfold impl_AgreeScans.f
 exact mo11_
set_option maxHeartbeats 8000000 in
set_option maxRecDepth 100000 in
theorem impl_AgreeScans.calls (k : Nat) (A0 : Option Addr) (c0 : Nat) (l0 : List ByteArray) (A1 : Option Addr) (c1 : Nat) (l1 : List ByteArray) (r1 : Bool) (r2 : Bool) (w : World) (hr0 : Kd.C Kd.string w A0 l0.length l0) (hc0 : l0.length ≤ c0) (hr1 : Kd.C Kd.string w A1 l1.length l1) (hc1 : l1.length ≤ c1) (h : impl_AgreeScans.f k l0 l1 = some (r1, r2)) :
  Calls Try.prog 10 #[.slice A0 l0.length c0, .slice A1 l1.length c1] w fun e w' => e = .returned (.tuple #[.bool r1, .bool r2]) ∧ Drawn0 w w' := by
 have HR0 := Aside0.mk hr0
 have HC0 := Aside0.mk hc0
 clear hr0 hc0
 have HR1 := Aside0.mk hr1
 have HC1 := Aside0.mk hc1
 clear hr1 hc1
 have H : ((impl_sameSize.f k l0 l1).bind fun t464 => (if t464 = true then ((impl_scanFaults.f k l0 l1).bind fun t465 => (some ((t465 == 0), true))) else (some (false, false)))) = some (r1, r2) := h
 clear h
 replace H := Option.bind_eq_some_iff.mp H
 obtain ⟨t464, A30, H⟩ := H
 (try dsimp only at H)
 have A3 := Aside0.mk A30
 clear A30
 by_cases c4 : t464 = true
 ·subst c4
  rw [if_pos rfl] at H
  replace H := Option.bind_eq_some_iff.mp H
  obtain ⟨t465, A50, H⟩ := H
  replace H : (some ((t465 == 0), true)) = some (r1, r2) := H
  have A5 := Aside0.mk A50
  clear A50
  simp only [Option.some.injEq, Prod.mk.injEq] at H
  obtain ⟨rfl, rfl⟩ := H
  go_enter Try.func10, Try.ntmps10
  go_wp2_with (first | ((with_reducible refine gate_callee (f := 54) rfl ?_); refine gl_ 8 Try.func54 #[.slice A0 l0.length c0, .slice A1 l1.length c1] ?_; (with_reducible refine (impl_sameSize.calls k _ _ l0 _ _ l1 true _ ?_ ?_ ?_ ?_ A3.out).mono ?_); exact Z9 HR0.out; exact HC0.out; exact Z9 HR1.out; exact HC1.out; rintro e w' ⟨rfl, ⟨nd, rfl⟩⟩; refine ⟨_, rfl, ?_⟩) | ((with_reducible refine gate_callee (f := 55) rfl ?_); refine gl_ 12 Try.func55 #[.slice A0 l0.length c0, .slice A1 l1.length c1] ?_; (with_reducible refine (impl_scanFaults.calls k _ _ l0 _ _ l1 t465 _ ?_ ?_ ?_ ?_ A5.out).mono ?_); exact Z9 HR0.out; exact HC0.out; exact Z9 HR1.out; exact HC1.out; rintro e w' ⟨rfl, ⟨nd, rfl⟩⟩; refine ⟨_, rfl, ?_⟩))
  go_ret2
  exact ⟨Z10, Z17⟩
 replace c4 := Bool.eq_false_iff.mpr c4
 subst c4
 rw [if_neg (show ¬ (false = true) by decide)] at H
 simp only [Option.some.injEq, Prod.mk.injEq] at H
 obtain ⟨rfl, rfl⟩ := H
 go_enter Try.func10, Try.ntmps10
 go_wp2_with (first | ((with_reducible refine gate_callee (f := 54) rfl ?_); refine gl_ 8 Try.func54 #[.slice A0 l0.length c0, .slice A1 l1.length c1] ?_; (with_reducible refine (impl_sameSize.calls k _ _ l0 _ _ l1 false _ ?_ ?_ ?_ ?_ A3.out).mono ?_); exact Z9 HR0.out; exact HC0.out; exact Z9 HR1.out; exact HC1.out; rintro e w' ⟨rfl, ⟨nd, rfl⟩⟩; refine ⟨_, rfl, ?_⟩))
 go_ret2
 exact ⟨Z10, Z17⟩

/-! ### impl_MeetScans_1: function 56 -/
def impl_MeetScans_1.f (a0 : Int) (a1 : Int) (l2 : List ByteArray) (l3 : List ByteArray) : Option (Int) := if 0 ≤ a0 then (if a0 < (l2.length : Int) then (if 0 ≤ a1 then (if a1 < ((rdOf ByteArray.empty l2 a0).size : Int) then (if (bt (rdOf ByteArray.empty l2 a0) a1) = 63 then (if a0 < (l3.length : Int) then (if a1 < ((rdOf ByteArray.empty l3 a0).size : Int) then (some (bt (rdOf ByteArray.empty l3 a0) a1)) else (none)) else (none)) else (some (bt (rdOf ByteArray.empty l2 a0) a1))) else (none)) else (none)) else (none)) else (none)
set_option maxHeartbeats 8000000 in
set_option maxRecDepth 100000 in
theorem impl_MeetScans_1.calls (a0 : Int) (a1 : Int) (p2 : Nat) (A2 : Option Addr) (c2 : Nat) (l2 : List ByteArray) (p3 : Nat) (A3 : Option Addr) (c3 : Nat) (l3 : List ByteArray) (r : Int) (w : World) (hr2 : Kd.C Kd.string w A2 l2.length l2) (hc2 : l2.length ≤ c2) (hr3 : Kd.C Kd.string w A3 l3.length l3) (hc3 : l3.length ≤ c3) (hb2 : w.heap[p2]? = some (.cells #[.slice A2 l2.length c2] 24 (0, 0))) (hb3 : w.heap[p3]? = some (.cells #[.slice A3 l3.length c3] 24 (0, 0))) (hn2_3 : p2 ≠ p3) (hn3_2 : p3 ≠ p2) (h : impl_MeetScans_1.f a0 a1 l2 l3 = some r) :
  Calls Try.prog 56 #[.int .i64 a0, .int .i64 a1, .pointer (some ⟨p2, 0, none⟩), .pointer (some ⟨p3, 0, none⟩)] w fun e w' => e = .returned (.int .u8 r) ∧ Drawn0 w w' := by
 have hu24 := Try.underlying24
 have hu9 := Try.underlying9
 have HR2 := Aside0.mk hr2
 have HC2 := Aside0.mk hc2
 clear hr2 hc2
 have HR3 := Aside0.mk hr3
 have HC3 := Aside0.mk hc3
 clear hr3 hc3
 have BK466 := Aside0.mk hb2
 clear hb2
 have BK467 := Aside0.mk hb3
 clear hb3
 have NB466_467 := Aside0.mk hn2_3
 clear hn2_3
 have NB467_466 := Aside0.mk hn3_2
 clear hn3_2
 have H : (if 0 ≤ a0 then (if a0 < (l2.length : Int) then (if 0 ≤ a1 then (if a1 < ((rdOf ByteArray.empty l2 a0).size : Int) then (if (bt (rdOf ByteArray.empty l2 a0) a1) = 63 then (if a0 < (l3.length : Int) then (if a1 < ((rdOf ByteArray.empty l3 a0).size : Int) then (some (bt (rdOf ByteArray.empty l3 a0) a1)) else (none)) else (none)) else (some (bt (rdOf ByteArray.empty l2 a0) a1))) else (none)) else (none)) else (none)) else (none)) = some r := h
 clear h
 by_cases c5 : 0 ≤ a0
 ·rw [if_pos c5] at H
  have c5b0 : decide (0 ≤ a0) = true := decide_eq_true c5
  clear c5
  by_cases c6 : a0 < (l2.length : Int)
  ·rw [if_pos c6] at H
   have c6b0 : decide (a0 < (l2.length : Int)) = true := decide_eq_true c6
   clear c6
   by_cases c7 : 0 ≤ a1
   ·rw [if_pos c7] at H
    have c7b0 : decide (0 ≤ a1) = true := decide_eq_true c7
    clear c7
    by_cases c8 : a1 < ((rdOf ByteArray.empty l2 a0).size : Int)
    ·rw [if_pos c8] at H
     have c8b0 : decide (a1 < ((rdOf ByteArray.empty l2 a0).size : Int)) = true := decide_eq_true c8
     clear c8
     by_cases c10 : (bt (rdOf ByteArray.empty l2 a0) a1) = 63
     ·rw [if_pos c10] at H
      have c10b0 : ((bt (rdOf ByteArray.empty l2 a0) a1) == 63) = true := beq_iff_eq.mpr c10
      have c10b1 : ((bt (rdOf ByteArray.empty l2 a0) a1) != 63) = false := bne_eq_false_iff_eq.mpr c10
      clear c10
      by_cases c11 : a0 < (l3.length : Int)
      ·rw [if_pos c11] at H
       have c11b0 : decide (a0 < (l3.length : Int)) = true := decide_eq_true c11
       clear c11
       by_cases c12 : a1 < ((rdOf ByteArray.empty l3 a0).size : Int)
       ·rw [if_pos c12] at H
        have c12b0 : decide (a1 < ((rdOf ByteArray.empty l3 a0).size : Int)) = true := decide_eq_true c12
        clear c12
        obtain rfl := Option.some.inj H
        have hnb14 := NB466_467.out
        have hnc14 := NB467_466.out
        obtain ⟨hcz15_0, hfz15_0⟩ := bx1_ (w := w) BK466.out
        have p468 : 0 ≤ (a0 : Int) := of_decide_eq_true (Z8)
        have q468 : a0 < (l2.length : Int) := of_decide_eq_true (Z8)
        obtain ⟨ad468, e468, hx468_0⟩ := Kd.at_string HR2.out a0 p468 q468
        cases e468
        replace p468 := eq_true p468
        replace q468 := eq_true q468
        have p9 : 0 ≤ (a1 : Int) := of_decide_eq_true (Z8)
        have q9 : a1 < ((rdOf ByteArray.empty l2 a0).size : Int) := of_decide_eq_true (Z8)
        have hx9 := bt_at (rdOf ByteArray.empty l2 a0) a1
        replace p9 := eq_true p9
        replace q9 := eq_true q9
        obtain ⟨hcz16_0, hfz16_0⟩ := bx1_ (w := w) BK467.out
        have p469 : 0 ≤ (a0 : Int) := of_decide_eq_true (Z8)
        have q469 : a0 < (l3.length : Int) := of_decide_eq_true (Z8)
        obtain ⟨ad469, e469, hx469_0⟩ := Kd.at_string HR3.out a0 p469 q469
        cases e469
        replace p469 := eq_true p469
        replace q469 := eq_true q469
        have p13 : 0 ≤ (a1 : Int) := of_decide_eq_true (Z8)
        have q13 : a1 < ((rdOf ByteArray.empty l3 a0).size : Int) := of_decide_eq_true (Z8)
        have hx13 := bt_at (rdOf ByteArray.empty l3 a0) a1
        replace p13 := eq_true p13
        replace q13 := eq_true q13
        go_enter Try.func56, Try.ntmps56
        go_wp2
        go_ret
        exact ⟨Z10, Z17⟩
       rw [if_neg c12] at H
       exact absurd H (by simp)
      rw [if_neg c11] at H
      exact absurd H (by simp)
     rw [if_neg c10] at H
     have c10b0 : ((bt (rdOf ByteArray.empty l2 a0) a1) == 63) = false := beq_eq_false_iff_ne.mpr c10
     have c10b1 : ((bt (rdOf ByteArray.empty l2 a0) a1) != 63) = true := bne_iff_ne.mpr c10
     obtain rfl := Option.some.inj H
     have hnb18 := NB466_467.out
     have hnc18 := NB467_466.out
     obtain ⟨hcz19_0, hfz19_0⟩ := bx1_ (w := w) BK466.out
     have p468 : 0 ≤ (a0 : Int) := of_decide_eq_true (Z8)
     have q468 : a0 < (l2.length : Int) := of_decide_eq_true (Z8)
     obtain ⟨ad468, e468, hx468_0⟩ := Kd.at_string HR2.out a0 p468 q468
     cases e468
     replace p468 := eq_true p468
     replace q468 := eq_true q468
     have p9 : 0 ≤ (a1 : Int) := of_decide_eq_true (Z8)
     have q9 : a1 < ((rdOf ByteArray.empty l2 a0).size : Int) := of_decide_eq_true (Z8)
     have hx9 := bt_at (rdOf ByteArray.empty l2 a0) a1
     replace p9 := eq_true p9
     replace q9 := eq_true q9
     have p470 : 0 ≤ (a0 : Int) := of_decide_eq_true (Z8)
     have q470 : a0 < (l2.length : Int) := of_decide_eq_true (Z8)
     obtain ⟨ad470, e470, hx470_0⟩ := Kd.at_string HR2.out a0 p470 q470
     obtain rfl : ad468 = ad470 := (by injection e470)
     replace p470 := eq_true p470
     replace q470 := eq_true q470
     have p17 : 0 ≤ (a1 : Int) := of_decide_eq_true (Z8)
     have q17 : a1 < ((rdOf ByteArray.empty l2 a0).size : Int) := of_decide_eq_true (Z8)
     have hx17 := bt_at (rdOf ByteArray.empty l2 a0) a1
     replace p17 := eq_true p17
     replace q17 := eq_true q17
     go_enter Try.func56, Try.ntmps56
     go_wp2
     go_ret
     exact ⟨Z10, Z17⟩
    rw [if_neg c8] at H
    exact absurd H (by simp)
   rw [if_neg c7] at H
   exact absurd H (by simp)
  rw [if_neg c6] at H
  exact absurd H (by simp)
 rw [if_neg c5] at H
 exact absurd H (by simp)

end Go.Proofs.Ytmnnmddfmmaohaa.PFnStains
