-- written by a program of this session: the kit's print, with outer functions of the session's own (wip/ext)
import Derived.Test.YtmnnmddfmmaohaaPFnPunchJobsx0
import Derived.Test.YtmnnmddfmmaohaaPFnPunchJobsx3
import Derived.Test.YtmnnmddfmmaohaaPFnPunchJobsx4
import Derived.Test.YtmnnmddfmmaohaaPFnPunchJobsx10
import Derived.Test.YtmnnmddfmmaohaaPFnPunchJobsx11
namespace Go.Proofs.Ytmnnmddfmmaohaa.PFnPunchJobs
open Go.RowKit Go.Proofs.YtmnnmddfmmaohaaW.PrintWords Go.Proofs.YtmnnmddfmmaohaaW.PrintLast Go.Proofs.YtmnnmddfmmaohaaW.PrintMore
attribute [local go_sem] max2_int min2_int max_two min_two max_three min_three max_four min_four   -- for this text's walks alone
set_option linter.unusedVariables false
set_option linter.unusedSimpArgs false
theorem mo17_ {p : Prop} (h : p := by repeat' first | (with_reducible first | apply ih0 | apply ih0 | apply impl_IsSheet.mono | apply impl_IsSheet.mono | apply impl_strokesOf.mono | apply impl_strokesOf.mono | apply spec_puStrokes.mono | apply spec_puStrokes.mono | apply spec_shGood.mono | apply spec_shGood.mono | exact LeO.refl _ | exact LeO.none _ | refine LeO.ite ?_ ?_ | refine LeO.bind ?_ (fun _ => ?_)) | exact LeO.none _ | refine LeO.ite ?_ ?_ | refine LeO.bind ?_ (fun _ => ?_)) : p := h

/-! ### laws_qInts: function 40 -/
def laws_qInts.l0 : Nat → List Int → List Int → Int → Int → Option (Bool)
 | 0, _, _, _, _ => none
 | k + 1, x0, x1, x12, x13 => if x13 < x12 then (if 0 ≤ x13 then (if x13 < (x0.length : Int) then (if x13 < (x1.length : Int) then (if (rd x0 x13) = (rd x1 x13) then (laws_qInts.l0 k x0 x1 x12 (wrap64 (x13 + 1))) else (some false)) else (none)) else (none)) else (none)) else (some true)
def laws_qInts.f (k : Nat) (l0 : List Int) (l1 : List Int) : Option (Bool) := if (l0.length : Int) = (l1.length : Int) then (laws_qInts.l0 k l0 l1 (l0.length : Int) 0) else (some false)
theorem laws_qInts.mono_l : ∀ k, (∀ y0 y1 y2 y3, LeO (laws_qInts.l0 k y0 y1 y2 y3) (laws_qInts.l0 (k + 1) y0 y1 y2 y3))
 | 0 => fun _ _ _ _ r h => by simp [laws_qInts.l0] at h
 | k + 1 => by
  have ih0 := laws_qInts.mono_l k
  ·intro y0 y1 y2 y3
   unfold laws_qInts.l0
   exact mo17_
theorem laws_qInts.mono : ∀ a0 a1 k, LeO (laws_qInts.f k a0 a1) (laws_qInts.f (k + 1) a0 a1) := by
 intro a0 a1 k
 have ih0 := laws_qInts.mono_l k
 unfold laws_qInts.f
 exact mo17_
set_option maxHeartbeats 8000000 in
set_option maxRecDepth 100000 in
theorem laws_qInts.calls (k : Nat) (A0 : Option Addr) (c0 : Nat) (l0 : List Int) (A1 : Option Addr) (c1 : Nat) (l1 : List Int) (r : Bool) (w : World) (hr0 : Kd.C (Kd.int .i64) w A0 l0.length l0) (hc0 : l0.length ≤ c0) (hr1 : Kd.C (Kd.int .i64) w A1 l1.length l1) (hc1 : l1.length ≤ c1) (h : laws_qInts.f k l0 l1 = some r) :
  Calls Try.prog 40 #[.slice A0 l0.length c0, .slice A1 l1.length c1] w fun e w' => e = .returned (.bool r) ∧ Drawn0 w w' := by
 have HR0 := Aside0.mk hr0
 have HC0 := Aside0.mk hc0
 clear hr0 hc0
 have HR1 := Aside0.mk hr1
 have HC1 := Aside0.mk hc1
 clear hr1 hc1
 have H : (if (l0.length : Int) = (l1.length : Int) then (laws_qInts.l0 k l0 l1 (l0.length : Int) 0) else (some false)) = some r := h
 clear h
 by_cases c3 : (l0.length : Int) = (l1.length : Int)
 ·rw [if_pos c3] at H
  have f5 : ((l0.length : Int) == (l1.length : Int)) = true := beq_iff_eq.mpr c3
  have oE : ((l0.length : Int) != (l1.length : Int)) = false := bne_eq_false_iff_eq.mpr c3
  have Ap : (l0.length == l1.length) = true := by first | simpa using c3 | (simp at c3 ⊢; omega)
  clear c3
  have H' := Aside0.mk H
  clear H
  go_enter Try.func40, Try.ntmps40
  go_wp2
  repeat (go_quiet (fail); try go_wp2)
  go_loopg [13] k (fun kq Jf w' => ∃ (bM : Int), Jf = .int .i64 bM ∧ Aside0 (laws_qInts.l0 kq l0 l1 (l0.length : Int) bM = some r) ∧ Aside0 (kq ≤ k) ∧ Drawn0 w w')
  case atStart => exact ⟨(0), (Z41), H', ⟨Nat.le_refl _⟩, Z138⟩
  case round =>
   clear H'
   (try clear c1); (try clear p2); (try clear c3); (try clear f5); (try clear oE); (try clear Ap)
   obtain ⟨bM, rfl, HA, HK1, ⟨m1, rfl⟩⟩ := hrel
   cases gk with
   | zero => exact absurd HA.out (by simp [laws_qInts.l0])
   | succ k1 =>
    have H := HA.out
    clear HA
    simp only [laws_qInts.l0] at H
    by_cases c4 : bM < (l0.length : Int)
    ·rw [if_pos c4] at H
     have go : decide (bM < (l0.length : Int)) = true := decide_eq_true c4
     clear c4
     by_cases c5 : 0 ≤ bM
     case neg => rw [if_neg c5] at H; exact absurd H (by simp)
     rw [if_pos c5] at H
     have gW : decide (0 ≤ bM) = true := decide_eq_true c5
     clear c5
     by_cases c6 : bM < (l0.length : Int)
     case neg => rw [if_neg c6] at H; exact absurd H (by simp)
     rw [if_pos c6] at H
     have nR : decide (bM < (l0.length : Int)) = true := decide_eq_true c6
     clear c6
     by_cases c7 : bM < (l1.length : Int)
     case neg => rw [if_neg c7] at H; exact absurd H (by simp)
     rw [if_pos c7] at H
     have sS : decide (bM < (l1.length : Int)) = true := decide_eq_true c7
     clear c7
     by_cases c8 : (rd l0 bM) = (rd l1 bM)
     ·rw [if_pos c8] at H
      have nY : ((rd l0 bM) == (rd l1 bM)) = true := beq_iff_eq.mpr c8
      have zG : ((rd l0 bM) != (rd l1 bM)) = false := bne_eq_false_iff_eq.mpr c8
      clear c8
      have H' := Aside0.mk H
      clear H
      have vu : 0 ≤ (bM : Int) := of_decide_eq_true (Z21)
      have vv : bM < (l0.length : Int) := of_decide_eq_true (Z21)
      obtain ⟨ad694, e694, hx694_0⟩ := Kd.at_int HR0.out bM vu vv
      cases e694
      replace vu := eq_true vu
      replace vv := eq_true vv
      have vw : 0 ≤ (bM : Int) := of_decide_eq_true (Z21)
      have vx : bM < (l1.length : Int) := of_decide_eq_true (Z21)
      obtain ⟨ad695, e695, hx695_0⟩ := Kd.at_int HR1.out bM vw vx
      cases e695
      replace vw := eq_true vw
      replace vx := eq_true vx
      go_wp2
      repeat (go_quiet (fail); try go_wp2)
      go_roundg k1
      case measure => have := HK1.out; omega
      case rel => exact ⟨(wrap64 (bM + 1)), (Z41), H', ⟨Z182 HK1⟩, Z138⟩
     rw [if_neg c8] at H
     have nY : ((rd l0 bM) == (rd l1 bM)) = false := beq_eq_false_iff_ne.mpr c8
     have zG : ((rd l0 bM) != (rd l1 bM)) = true := bne_iff_ne.mpr c8
     obtain rfl := Option.some.inj H
     have vu : 0 ≤ (bM : Int) := of_decide_eq_true (Z21)
     have vv : bM < (l0.length : Int) := of_decide_eq_true (Z21)
     obtain ⟨ad694, e694, hx694_0⟩ := Kd.at_int HR0.out bM vu vv
     cases e694
     replace vu := eq_true vu
     replace vv := eq_true vv
     have vw : 0 ≤ (bM : Int) := of_decide_eq_true (Z21)
     have vx : bM < (l1.length : Int) := of_decide_eq_true (Z21)
     obtain ⟨ad695, e695, hx695_0⟩ := Kd.at_int HR1.out bM vw vx
     cases e695
     replace vw := eq_true vw
     replace vx := eq_true vx
     go_wp2
     repeat (go_quiet (fail); try go_wp2)
     go_ret
     exact ⟨Z41, Z138⟩
    rw [if_neg c4] at H
    have go : decide (bM < (l0.length : Int)) = false := decide_eq_false c4
    clear c4
    obtain rfl := Option.some.inj H
    go_wp2
    repeat (go_quiet (fail); try go_wp2)
    go_ret
    exact ⟨Z41, Z138⟩
 rw [if_neg c3] at H
 have f5 : ((l0.length : Int) == (l1.length : Int)) = false := beq_eq_false_iff_ne.mpr c3
 have oE : ((l0.length : Int) != (l1.length : Int)) = true := bne_iff_ne.mpr c3
 have Ap : (l0.length == l1.length) = false := by first | simpa using c3 | (simp at c3 ⊢; omega)
 obtain rfl := Option.some.inj H
 go_enter Try.func40, Try.ntmps40
 go_wp2
 repeat (go_quiet (fail); try go_wp2)
 go_ret
 exact ⟨Z41, Z138⟩

/-! ### impl_StrokesOf: function 42 -/
def impl_StrokesOf.f (k : Nat) (l0 : List (S90)) : Option ((List (S103)) × Bool) := (impl_IsSheet.f k l0).bind fun Ar => (if Ar = true then ((impl_strokesOf.f k l0).bind fun tC => (some (tC.1, tC.2))) else (some (([] : List (S103)), false)))
theorem impl_StrokesOf.mono : ∀ a0 k, LeO (impl_StrokesOf.f k a0) (impl_StrokesOf.f (k + 1) a0) := by
 intro a0 k
 unfold impl_StrokesOf.f
 exact mo17_
set_option maxHeartbeats 8000000 in
set_option maxRecDepth 100000 in
theorem impl_StrokesOf.calls (k : Nat) (A0 : Option Addr) (c0 : Nat) (l0 : List (S90)) (r1 : List (S103)) (r2 : Bool) (w : World) (hr0 : Kd.C k90 w A0 l0.length l0) (hc0 : l0.length ≤ c0) (h : impl_StrokesOf.f k l0 = some (r1, r2)) :
  Calls Try.prog 42 #[.slice A0 l0.length c0] w fun e w' => ∃ v0_ : Value, e = .returned (.tuple #[v0_, .bool r2]) ∧ Kd.R k103 103 w' w.heap.size (fun _ => True) v0_ r1 ∧ Below w.heap.size w w' := by
 have HR0 := Aside0.mk hr0
 have HC0 := Aside0.mk hc0
 clear hr0 hc0
 have HB := Aside0.mk (Below.refl w.heap.size w)
 have H : ((impl_IsSheet.f k l0).bind fun Ar => (if Ar = true then ((impl_strokesOf.f k l0).bind fun tC => (some (tC.1, tC.2))) else (some (([] : List (S103)), false)))) = some (r1, r2) := h
 clear h
 obtain ⟨Ar, A2, H⟩ := bd_ H
 (try dsimp only at H)
 by_cases c3 : Ar = true
 ·subst c3
  rw [if_pos rfl] at H
  obtain ⟨⟨HG, HH⟩, A4, H⟩ := bd_ H
  replace H : (some (HG, HH)) = some (r1, r2) := H
  simp only [Option.some.injEq, Prod.mk.injEq] at H
  obtain ⟨rfl, rfl⟩ := H
  go_enter Try.func42, Try.ntmps42
  go_wp2_with (first | ((with_reducible refine gate_callee (f := 82) rfl ?_); refine gl_ 5 Try.func82 #[.slice A0 l0.length c0] ?_; (with_reducible refine (impl_IsSheet.calls k _ _ l0 true _ ?_ ?_ A2.out).mono ?_); exact Z118; exact HC0.out; rintro e w5 ⟨rfl, hb⟩; refine ⟨_, rfl, ?_⟩; refine k1_ (below_step (Z5) hb) ?_; clear HB; intro HB; (try clear hb)) | ((with_reducible refine gate_callee (f := 83) rfl ?_); refine gl_ 8 Try.func83 #[.slice A0 l0.length c0] ?_; (with_reducible refine (impl_strokesOf.calls k _ _ l0 HG HH _ ?_ ?_ A4.out).mono ?_); exact (Z15 HR0); exact HC0.out; rintro e w6 ⟨v699, rfl, ho0, hb⟩; refine ⟨_, rfl, ?_⟩; refine k2_ (Kd.R_lower ho0 (below_size (Z5))) (below_step (Z5) hb) ?_; clear HB; intro HO700 HB; (try clear hb ho0)))
  go_ret2
  exact ⟨_, Z11, Z2 HO700, Z5⟩
 replace c3 := Bool.eq_false_iff.mpr c3
 subst c3
 rw [if_neg (show ¬ (false = true) by decide)] at H
 simp only [Option.some.injEq, Prod.mk.injEq] at H
 obtain ⟨rfl, rfl⟩ := H
 go_enter Try.func42, Try.ntmps42
 go_wp2_with (first | ((with_reducible refine gate_callee (f := 82) rfl ?_); refine gl_ 5 Try.func82 #[.slice A0 l0.length c0] ?_; (with_reducible refine (impl_IsSheet.calls k _ _ l0 false _ ?_ ?_ A2.out).mono ?_); exact Z118; exact HC0.out; rintro e w7 ⟨rfl, hb⟩; refine ⟨_, rfl, ?_⟩; refine k1_ (below_step (Z5) hb) ?_; clear HB; intro HB; (try clear hb)))
 go_ret2
 exact ⟨_, Z11, Z44, Z5⟩

/-! ### spec_StrokesOf: function 43 -/
def spec_StrokesOf.f (k : Nat) (l0 : List (S90)) : Option ((List (S103)) × Bool) := (spec_shGood.f k l0).bind fun As => (if As = true then ((spec_puStrokes.f k l0).bind fun tD => (some (tD.1, tD.2))) else (some (([] : List (S103)), false)))
theorem spec_StrokesOf.mono : ∀ a0 k, LeO (spec_StrokesOf.f k a0) (spec_StrokesOf.f (k + 1) a0) := by
 intro a0 k
 unfold spec_StrokesOf.f
 exact mo17_
set_option maxHeartbeats 8000000 in
set_option maxRecDepth 100000 in
theorem spec_StrokesOf.calls (k : Nat) (A0 : Option Addr) (c0 : Nat) (l0 : List (S90)) (r1 : List (S103)) (r2 : Bool) (w : World) (hr0 : Kd.C k90 w A0 l0.length l0) (hc0 : l0.length ≤ c0) (h : spec_StrokesOf.f k l0 = some (r1, r2)) :
  Calls Try.prog 43 #[.slice A0 l0.length c0] w fun e w' => ∃ v0_ : Value, e = .returned (.tuple #[v0_, .bool r2]) ∧ Kd.R k103 103 w' w.heap.size (fun _ => True) v0_ r1 ∧ Below w.heap.size w w' := by
 have HR0 := Aside0.mk hr0
 have HC0 := Aside0.mk hc0
 clear hr0 hc0
 have HB := Aside0.mk (Below.refl w.heap.size w)
 have H : ((spec_shGood.f k l0).bind fun As => (if As = true then ((spec_puStrokes.f k l0).bind fun tD => (some (tD.1, tD.2))) else (some (([] : List (S103)), false)))) = some (r1, r2) := h
 clear h
 obtain ⟨As, A2, H⟩ := bd_ H
 (try dsimp only at H)
 by_cases c3 : As = true
 ·subst c3
  rw [if_pos rfl] at H
  obtain ⟨⟨HI, HJ⟩, A4, H⟩ := bd_ H
  replace H : (some (HI, HJ)) = some (r1, r2) := H
  simp only [Option.some.injEq, Prod.mk.injEq] at H
  obtain ⟨rfl, rfl⟩ := H
  go_enter Try.func43, Try.ntmps43
  go_wp2_with (first | ((with_reducible refine gate_callee (f := 84) rfl ?_); refine gl_ 5 Try.func84 #[.slice A0 l0.length c0] ?_; (with_reducible refine (spec_shGood.calls k _ _ l0 true _ ?_ ?_ A2.out).mono ?_); exact Z118; exact HC0.out; rintro e w5 ⟨rfl, hb⟩; refine ⟨_, rfl, ?_⟩; refine k1_ (below_step (Z5) hb) ?_; clear HB; intro HB; (try clear hb)) | ((with_reducible refine gate_callee (f := 85) rfl ?_); refine gl_ 8 Try.func85 #[.slice A0 l0.length c0] ?_; (with_reducible refine (spec_puStrokes.calls k _ _ l0 HI HJ _ ?_ ?_ A4.out).mono ?_); exact (Z15 HR0); exact HC0.out; rintro e w6 ⟨v704, rfl, ho0, hb⟩; refine ⟨_, rfl, ?_⟩; refine k2_ (Kd.R_lower ho0 (below_size (Z5))) (below_step (Z5) hb) ?_; clear HB; intro HO705 HB; (try clear hb ho0)))
  go_ret2
  exact ⟨_, Z11, Z2 HO705, Z5⟩
 replace c3 := Bool.eq_false_iff.mpr c3
 subst c3
 rw [if_neg (show ¬ (false = true) by decide)] at H
 simp only [Option.some.injEq, Prod.mk.injEq] at H
 obtain ⟨rfl, rfl⟩ := H
 go_enter Try.func43, Try.ntmps43
 go_wp2_with (first | ((with_reducible refine gate_callee (f := 84) rfl ?_); refine gl_ 5 Try.func84 #[.slice A0 l0.length c0] ?_; (with_reducible refine (spec_shGood.calls k _ _ l0 false _ ?_ ?_ A2.out).mono ?_); exact Z118; exact HC0.out; rintro e w7 ⟨rfl, hb⟩; refine ⟨_, rfl, ?_⟩; refine k1_ (below_step (Z5) hb) ?_; clear HB; intro HB; (try clear hb)))
 go_ret2
 exact ⟨_, Z11, Z44, Z5⟩

end Go.Proofs.Ytmnnmddfmmaohaa.PFnPunchJobs
