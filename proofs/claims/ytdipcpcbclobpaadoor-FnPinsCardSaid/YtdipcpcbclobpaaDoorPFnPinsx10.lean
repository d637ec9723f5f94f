-- written by a program of this session: the kit's print, with outer functions of the session's own (wip/ext)
import Derived.Test.YtdipcpcbclobpaaDoorPFnPinsx0
import Derived.Test.YtdipcpcbclobpaaDoorPFnPinsx1
import Derived.Test.YtdipcpcbclobpaaDoorPFnPinsx2
import Derived.Test.YtdipcpcbclobpaaDoorPFnPinsx3
import Derived.Test.YtdipcpcbclobpaaDoorPFnPinsx7
import Derived.Test.YtdipcpcbclobpaaDoorPFnPinsx8
import Derived.Test.YtdipcpcbclobpaaDoorPFnPinsx9
namespace Go.Proofs.YtdipcpcbclobpaaDoor.PFnPins
open Go.RowKit Go.Proofs.YtdipcpcbclobpaaDoorW.PrintWords Go.Proofs.YtdipcpcbclobpaaDoorW.PrintLast Go.Proofs.YtdipcpcbclobpaaDoorW.PrintMore
attribute [local go_sem] max2_int min2_int max_two min_two max_three min_three max_four min_four   -- for this text's walks alone
set_option linter.unusedVariables false
set_option linter.unusedSimpArgs false
theorem mo10_ {p : Prop} (h : p := by repeat' first | (with_reducible first | apply ih0 | apply ih0 | apply impl_ArePins.mono | apply impl_ArePins.mono | apply impl_tunePins.mono | apply impl_tunePins.mono | apply spec_cyGood.mono | apply spec_cyGood.mono | apply spec_cyPart.mono | apply spec_cyPart.mono | apply spec_cyTurn.mono | apply spec_cyTurn.mono | exact LeO.refl _ | exact LeO.none _ | refine LeO.ite ?_ ?_ | refine LeO.bind ?_ (fun _ => ?_)) | exact LeO.none _ | refine LeO.ite ?_ ?_ | refine LeO.bind ?_ (fun _ => ?_)) : p := h

attribute [local go_sem high] eqA33
/-! ### spec_TurnTune: function 7 -/
def spec_TurnTune.f (k : Nat) (l0 : List (S33)) (a1 : Int) (a2 : Int) : Option ((List (S33)) × Bool) := (spec_cyGood.f k l0).bind fun oP => (if oP = true then ((spec_cyShift.f a1).bind fun oQ => (if oQ = true then ((spec_cyAngle.f a2).bind fun oR => (if oR = true then ((spec_cyTurn.f k l0 a1 a2).bind fun nT => (some (nT, true))) else (some (([] : List (S33)), false)))) else (some (([] : List (S33)), false)))) else (some (([] : List (S33)), false)))
theorem spec_TurnTune.mono : ∀ a0 a1 a2 k, LeO (spec_TurnTune.f k a0 a1 a2) (spec_TurnTune.f (k + 1) a0 a1 a2) := by
 intro a0 a1 a2 k
 unfold spec_TurnTune.f
 exact mo10_
set_option maxHeartbeats 8000000 in
set_option maxRecDepth 100000 in
theorem spec_TurnTune.calls (k : Nat) (A0 : Option Addr) (c0 : Nat) (l0 : List (S33)) (a1 : Int) (a2 : Int) (r1 : List (S33)) (r2 : Bool) (w : World) (hr0 : Kd.C k33 w A0 l0.length l0) (hc0 : l0.length ≤ c0) (h : spec_TurnTune.f k l0 a1 a2 = some (r1, r2)) :
  Calls Tryd.prog 7 #[.slice A0 l0.length c0, .int .i64 a1, .int .i64 a2] w fun e w' => ∃ v0_ : Value, e = .returned (.tuple #[v0_, .bool r2]) ∧ Kd.R k33 33 w' w.heap.size (fun _ => True) v0_ r1 ∧ Below w.heap.size w w' := by
 have HR0 := Aside0.mk hr0
 have HC0 := Aside0.mk hc0
 clear hr0 hc0
 have HB := Aside0.mk (Below.refl w.heap.size w)
 have H : ((spec_cyGood.f k l0).bind fun oP => (if oP = true then ((spec_cyShift.f a1).bind fun oQ => (if oQ = true then ((spec_cyAngle.f a2).bind fun oR => (if oR = true then ((spec_cyTurn.f k l0 a1 a2).bind fun nT => (some (nT, true))) else (some (([] : List (S33)), false)))) else (some (([] : List (S33)), false)))) else (some (([] : List (S33)), false)))) = some (r1, r2) := h
 clear h
 replace H := Option.bind_eq_some_iff.mp H
 obtain ⟨oP, ff, H⟩ := H
 (try dsimp only at H)
 have A4 := Aside0.mk ff
 clear ff
 by_cases c5 : oP = true
 ·subst c5
  rw [if_pos rfl] at H
  replace H := Option.bind_eq_some_iff.mp H
  obtain ⟨oQ, gW, H⟩ := H
  (try dsimp only at H)
  have A6 := Aside0.mk gW
  clear gW
  by_cases c7 : oQ = true
  ·subst c7
   rw [if_pos rfl] at H
   replace H := Option.bind_eq_some_iff.mp H
   obtain ⟨oR, oS, H⟩ := H
   (try dsimp only at H)
   have A8 := Aside0.mk oS
   clear oS
   by_cases c9 : oR = true
   ·subst c9
    rw [if_pos rfl] at H
    replace H := Option.bind_eq_some_iff.mp H
    obtain ⟨nT, oT, H⟩ := H
    replace H : (some (nT, true)) = some (r1, r2) := H
    have ym := Aside0.mk oT
    clear oT
    simp only [Option.some.injEq, Prod.mk.injEq] at H
    obtain ⟨rfl, rfl⟩ := H
    go_enter Tryd.func7, Tryd.ntmps7
    go_wp2_with (first | ((with_reducible refine gate_callee (f := 33) rfl ?_); refine gl_ 9 Tryd.func33 #[.slice A0 l0.length c0] ?_; (with_reducible refine (spec_cyGood.calls k _ _ l0 true _ ?_ ?_ A4.out).mono ?_); exact (Z17 HR0); exact HC0.out; rintro e eV ⟨rfl, hb⟩; refine ⟨_, rfl, ?_⟩; refine k1_ (below_step (Z1) hb) ?_; clear HB; intro HB; (try clear hb)) | (go_at_call 34; (with_reducible refine (spec_cyShift.calls a1 true _ A6.out).mono ?_); rintro e w' ⟨rfl, ⟨nd, rfl⟩⟩) | (go_at_call 35; (with_reducible refine (spec_cyAngle.calls a2 true _ A8.out).mono ?_); rintro e w' ⟨rfl, ⟨nd, rfl⟩⟩) | ((with_reducible refine gate_callee (f := 36) rfl ?_); refine gl_ 24 Tryd.func36 #[.slice A0 l0.length c0, .int .i64 a1, .int .i64 a2] ?_; (with_reducible refine (spec_cyTurn.calls k _ _ l0 a1 a2 nT _ ?_ ?_ ym.out).mono ?_); exact Z52; exact HC0.out; rintro e oU ⟨v371, rfl, ho0, hb⟩; refine ⟨_, rfl, ?_⟩; refine k2_ (Kd.R_lower ho0 (below_size (Z1))) (below_step (Z1) hb) ?_; clear HB; intro HO372 HB; (try clear hb ho0)))
    go_ret2
    exact ⟨_, Z11, Z2 HO372, Z1⟩
   replace c9 := Bool.eq_false_iff.mpr c9
   subst c9
   rw [if_neg (show ¬ (false = true) by decide)] at H
   simp only [Option.some.injEq, Prod.mk.injEq] at H
   obtain ⟨rfl, rfl⟩ := H
   go_enter Tryd.func7, Tryd.ntmps7
   go_wp2_with (first | ((with_reducible refine gate_callee (f := 33) rfl ?_); refine gl_ 9 Tryd.func33 #[.slice A0 l0.length c0] ?_; (with_reducible refine (spec_cyGood.calls k _ _ l0 true _ ?_ ?_ A4.out).mono ?_); exact (Z17 HR0); exact HC0.out; rintro e fS ⟨rfl, hb⟩; refine ⟨_, rfl, ?_⟩; refine k1_ (below_step (Z1) hb) ?_; clear HB; intro HB; (try clear hb)) | (go_at_call 34; (with_reducible refine (spec_cyShift.calls a1 true _ A6.out).mono ?_); rintro e w' ⟨rfl, ⟨nd, rfl⟩⟩) | (go_at_call 35; (with_reducible refine (spec_cyAngle.calls a2 false _ A8.out).mono ?_); rintro e w' ⟨rfl, ⟨nd, rfl⟩⟩))
   go_ret2
   exact ⟨_, Z11, Z21, Z1⟩
  replace c7 := Bool.eq_false_iff.mpr c7
  subst c7
  rw [if_neg (show ¬ (false = true) by decide)] at H
  simp only [Option.some.injEq, Prod.mk.injEq] at H
  obtain ⟨rfl, rfl⟩ := H
  go_enter Tryd.func7, Tryd.ntmps7
  go_wp2_with (first | ((with_reducible refine gate_callee (f := 33) rfl ?_); refine gl_ 9 Tryd.func33 #[.slice A0 l0.length c0] ?_; (with_reducible refine (spec_cyGood.calls k _ _ l0 true _ ?_ ?_ A4.out).mono ?_); exact (Z17 HR0); exact HC0.out; rintro e vY ⟨rfl, hb⟩; refine ⟨_, rfl, ?_⟩; refine k1_ (below_step (Z1) hb) ?_; clear HB; intro HB; (try clear hb)) | (go_at_call 34; (with_reducible refine (spec_cyShift.calls a1 false _ A6.out).mono ?_); rintro e w' ⟨rfl, ⟨nd, rfl⟩⟩))
  go_ret2
  exact ⟨_, Z11, Z21, Z1⟩
 replace c5 := Bool.eq_false_iff.mpr c5
 subst c5
 rw [if_neg (show ¬ (false = true) by decide)] at H
 simp only [Option.some.injEq, Prod.mk.injEq] at H
 obtain ⟨rfl, rfl⟩ := H
 go_enter Tryd.func7, Tryd.ntmps7
 go_wp2_with (first | ((with_reducible refine gate_callee (f := 33) rfl ?_); refine gl_ 9 Tryd.func33 #[.slice A0 l0.length c0] ?_; (with_reducible refine (spec_cyGood.calls k _ _ l0 false _ ?_ ?_ A4.out).mono ?_); exact (Z17 HR0); exact HC0.out; rintro e l7 ⟨rfl, hb⟩; refine ⟨_, rfl, ?_⟩; refine k1_ (below_step (Z1) hb) ?_; clear HB; intro HB; (try clear hb)))
 go_ret2
 exact ⟨_, Z11, Z21, Z1⟩

/-! ### laws_pSamePins: function 8 -/
def laws_pSamePins.l0 : Nat → List (S33) → List (S33) → Int → Int → Option (Bool)
 | 0, _, _, _, _ => none
 | k + 1, x0, x1, x12, x13 => if x13 < x12 then (if 0 ≤ x13 then (if x13 < (x0.length : Int) then (if x13 < (x1.length : Int) then (if (!(((rd_T33 x0 x13).f0) == ((rd_T33 x1 x13).f0)) || (!(((rd_T33 x0 x13).f1) == ((rd_T33 x1 x13).f1)) || (!(((rd_T33 x0 x13).f2) == ((rd_T33 x1 x13).f2))))) = true then (some false) else (laws_pSamePins.l0 k x0 x1 x12 (wrap64 (x13 + 1)))) else (none)) else (none)) else (none)) else (some true)
def laws_pSamePins.f (k : Nat) (l0 : List (S33)) (l1 : List (S33)) : Option (Bool) := if (l0.length : Int) = (l1.length : Int) then (laws_pSamePins.l0 k l0 l1 (l0.length : Int) 0) else (some false)
theorem laws_pSamePins.mono_l : ∀ k, (∀ y0 y1 y2 y3, LeO (laws_pSamePins.l0 k y0 y1 y2 y3) (laws_pSamePins.l0 (k + 1) y0 y1 y2 y3))
 | 0 => fun _ _ _ _ r h => by simp [laws_pSamePins.l0] at h
 | k + 1 => by
  have ih0 := laws_pSamePins.mono_l k
  ·intro y0 y1 y2 y3
   unfold laws_pSamePins.l0
   exact mo10_
theorem laws_pSamePins.mono : ∀ a0 a1 k, LeO (laws_pSamePins.f k a0 a1) (laws_pSamePins.f (k + 1) a0 a1) := by
 intro a0 a1 k
 have ih0 := laws_pSamePins.mono_l k
 unfold laws_pSamePins.f
 exact mo10_
set_option maxHeartbeats 8000000 in
set_option maxRecDepth 100000 in
theorem laws_pSamePins.calls (k : Nat) (A0 : Option Addr) (c0 : Nat) (l0 : List (S33)) (A1 : Option Addr) (c1 : Nat) (l1 : List (S33)) (r : Bool) (w : World) (hr0 : Kd.C k33 w A0 l0.length l0) (hc0 : l0.length ≤ c0) (hr1 : Kd.C k33 w A1 l1.length l1) (hc1 : l1.length ≤ c1) (h : laws_pSamePins.f k l0 l1 = some r) :
  Calls Tryd.prog 8 #[.slice A0 l0.length c0, .slice A1 l1.length c1] w fun e w' => e = .returned (.bool r) ∧ Drawn0 w w' := by
 have hu33 := Tryd.underlying33
 have HR0 := Aside0.mk hr0
 have HC0 := Aside0.mk hc0
 clear hr0 hc0
 have HR1 := Aside0.mk hr1
 have HC1 := Aside0.mk hc1
 clear hr1 hc1
 have H : (if (l0.length : Int) = (l1.length : Int) then (laws_pSamePins.l0 k l0 l1 (l0.length : Int) 0) else (some false)) = some r := h
 clear h
 by_cases c3 : (l0.length : Int) = (l1.length : Int)
 ·rw [if_pos c3] at H
  have dE : ((l0.length : Int) == (l1.length : Int)) = true := beq_iff_eq.mpr c3
  have gX : ((l0.length : Int) != (l1.length : Int)) = false := bne_eq_false_iff_eq.mpr c3
  have oV : (l0.length == l1.length) = true := by first | simpa using c3 | (simp at c3 ⊢; omega)
  clear c3
  have H' := Aside0.mk H
  clear H
  go_enter Tryd.func8, Tryd.ntmps8
  go_wp2
  repeat (go_quiet (fail); try go_wp2)
  go_loopg [13] k (fun kq vZ w' => ∃ (al : Int), vZ = .int .i64 al ∧ Aside0 (laws_pSamePins.l0 kq l0 l1 (l0.length : Int) al = some r) ∧ Aside0 (kq ≤ k) ∧ Drawn0 w w')
  case atStart => exact ⟨(0), (Z14), H', ⟨Nat.le_refl _⟩, Z43⟩
  case round =>
   clear H'
   (try clear c1); (try clear p2); (try clear c3); (try clear dE); (try clear gX); (try clear oV)
   obtain ⟨al, rfl, HA, HK1, ⟨m1, rfl⟩⟩ := hrel
   cases gk with
   | zero => exact absurd HA.out (by simp [laws_pSamePins.l0])
   | succ k1 =>
    have H := HA.out
    clear HA
    simp only [laws_pSamePins.l0] at H
    by_cases c4 : al < (l0.length : Int)
    ·rw [if_pos c4] at H
     have cy : decide (al < (l0.length : Int)) = true := decide_eq_true c4
     clear c4
     by_cases c5 : 0 ≤ al
     ·rw [if_pos c5] at H
      have e3 : decide (0 ≤ al) = true := decide_eq_true c5
      clear c5
      by_cases c6 : al < (l0.length : Int)
      ·rw [if_pos c6] at H
       have en : decide (al < (l0.length : Int)) = true := decide_eq_true c6
       clear c6
       by_cases c7 : al < (l1.length : Int)
       ·rw [if_pos c7] at H
        have dz : decide (al < (l1.length : Int)) = true := decide_eq_true c7
        clear c7
        by_cases c8 : (!(((rd_T33 l0 al).f0) == ((rd_T33 l1 al).f0)) || (!(((rd_T33 l0 al).f1) == ((rd_T33 l1 al).f1)) || (!(((rd_T33 l0 al).f2) == ((rd_T33 l1 al).f2))))) = true
        ·rw [if_pos c8] at H
         have iY : (!(((rd_T33 l0 al).f0) == ((rd_T33 l1 al).f0)) || (!(((rd_T33 l0 al).f1) == ((rd_T33 l1 al).f1)) || (!(((rd_T33 l0 al).f2) == ((rd_T33 l1 al).f2))))) = true := c8
         clear c8
         obtain rfl := Option.some.inj H
         have l8 : 0 ≤ (al : Int) := of_decide_eq_true (Z12)
         have l9 : al < (l0.length : Int) := of_decide_eq_true (Z12)
         obtain ⟨ad373, e373, hx373_0, hx373_1, hx373_2⟩ := at_T33 HR0.out al l8 l9
         cases e373
         replace l8 := eq_true l8
         replace l9 := eq_true l9
         have ma : 0 ≤ (al : Int) := of_decide_eq_true (Z12)
         have mb : al < (l1.length : Int) := of_decide_eq_true (Z12)
         obtain ⟨ad374, e374, hx374_0, hx374_1, hx374_2⟩ := at_T33 HR1.out al ma mb
         cases e374
         replace ma := eq_true ma
         replace mb := eq_true mb
         go_wp2
         repeat (go_quiet (fail); try go_wp2)
         go_ret
         exact ⟨Z14, Z43⟩
        rw [if_neg c8] at H
        have iY : (!(((rd_T33 l0 al).f0) == ((rd_T33 l1 al).f0)) || (!(((rd_T33 l0 al).f1) == ((rd_T33 l1 al).f1)) || (!(((rd_T33 l0 al).f2) == ((rd_T33 l1 al).f2))))) = false := by simpa using c8
        clear c8
        have H' := Aside0.mk H
        clear H
        have l8 : 0 ≤ (al : Int) := of_decide_eq_true (Z12)
        have l9 : al < (l0.length : Int) := of_decide_eq_true (Z12)
        obtain ⟨ad373, e373, hx373_0, hx373_1, hx373_2⟩ := at_T33 HR0.out al l8 l9
        cases e373
        replace l8 := eq_true l8
        replace l9 := eq_true l9
        have ma : 0 ≤ (al : Int) := of_decide_eq_true (Z12)
        have mb : al < (l1.length : Int) := of_decide_eq_true (Z12)
        obtain ⟨ad374, e374, hx374_0, hx374_1, hx374_2⟩ := at_T33 HR1.out al ma mb
        cases e374
        replace ma := eq_true ma
        replace mb := eq_true mb
        go_wp2
        repeat (go_quiet (fail); try go_wp2)
        go_roundg k1
        case measure => have := HK1.out; omega
        case rel => exact ⟨(wrap64 (al + 1)), (Z14), H', ⟨Z82 HK1⟩, Z43⟩
       rw [if_neg c7] at H
       exact absurd H (by simp)
      rw [if_neg c6] at H
      exact absurd H (by simp)
     rw [if_neg c5] at H
     exact absurd H (by simp)
    rw [if_neg c4] at H
    have cy : decide (al < (l0.length : Int)) = false := decide_eq_false c4
    clear c4
    obtain rfl := Option.some.inj H
    go_wp2
    repeat (go_quiet (fail); try go_wp2)
    go_ret
    exact ⟨Z14, Z43⟩
 rw [if_neg c3] at H
 have dE : ((l0.length : Int) == (l1.length : Int)) = false := beq_eq_false_iff_ne.mpr c3
 have gX : ((l0.length : Int) != (l1.length : Int)) = true := bne_iff_ne.mpr c3
 have oV : (l0.length == l1.length) = false := by first | simpa using c3 | (simp at c3 ⊢; omega)
 obtain rfl := Option.some.inj H
 go_enter Tryd.func8, Tryd.ntmps8
 go_wp2
 repeat (go_quiet (fail); try go_wp2)
 go_ret
 exact ⟨Z14, Z43⟩

/-! ### impl_tunePins: function 37 -/
def impl_tunePins.l0 : Nat → Int → Bool → List (S33) → List (S33) → Int → Int → Option ((List (S33)))
 | 0, _, _, _, _, _, _ => none
 | k + 1, x1, x2, x7, x11, x12, x13 => if x13 < x12 then (if 0 ≤ x13 then (if x13 < (x11.length : Int) then (if ((((rd_T33 x11 x13).f2) == x1) == x2) = true then (if x7.length < 5864062014805 then (impl_tunePins.l0 k x1 x2 (x7 ++ [(⟨(rd_T33 x11 x13).f0, (rd_T33 x11 x13).f1, (rd_T33 x11 x13).f2⟩ : S33)]) x11 x12 (wrap64 (x13 + 1))) else (none)) else (impl_tunePins.l0 k x1 x2 x7 x11 x12 (wrap64 (x13 + 1)))) else (none)) else (none)) else (some x7)
def impl_tunePins.f (k : Nat) (l0 : List (S33)) (a1 : Int) (a2 : Bool) : Option ((List (S33))) := impl_tunePins.l0 k a1 a2 (([] : List (S33))) l0 (l0.length : Int) 0
theorem impl_tunePins.mono_l : ∀ k, (∀ y0 y1 y2 y3 y4 y5, LeO (impl_tunePins.l0 k y0 y1 y2 y3 y4 y5) (impl_tunePins.l0 (k + 1) y0 y1 y2 y3 y4 y5))
 | 0 => fun _ _ _ _ _ _ r h => by simp [impl_tunePins.l0] at h
 | k + 1 => by
  have ih0 := impl_tunePins.mono_l k
  ·intro y0 y1 y2 y3 y4 y5
   unfold impl_tunePins.l0
   exact mo10_
theorem impl_tunePins.mono : ∀ a0 a1 a2 k, LeO (impl_tunePins.f k a0 a1 a2) (impl_tunePins.f (k + 1) a0 a1 a2) := by
 intro a0 a1 a2 k
 have ih0 := impl_tunePins.mono_l k
 unfold impl_tunePins.f
 exact mo10_
set_option maxHeartbeats 8000000 in
set_option maxRecDepth 100000 in
theorem impl_tunePins.calls (k : Nat) (A0 : Option Addr) (c0 : Nat) (l0 : List (S33)) (a1 : Int) (a2 : Bool) (r : List (S33)) (w : World) (hr0 : Kd.C k33 w A0 l0.length l0) (hc0 : l0.length ≤ c0) (h : impl_tunePins.f k l0 a1 a2 = some r) :
  Calls Tryd.prog 37 #[.slice A0 l0.length c0, .int .i64 a1, .bool a2] w fun e w' => ∃ v0_ : Value, e = .returned (v0_) ∧ Kd.R k33 33 w' w.heap.size (fun _ => True) v0_ r ∧ Below w.heap.size w w' := by
 have hu33 := Tryd.underlying33
 have HR0 := Aside0.mk hr0
 have HC0 := Aside0.mk hc0
 clear hr0 hc0
 have HB := Aside0.mk (Below.refl w.heap.size w)
 have H : (impl_tunePins.l0 k a1 a2 (([] : List (S33))) l0 (l0.length : Int) 0) = some r := h
 clear h
 obtain ⟨v0, jC⟩ : ∃ y_ : List (S33), y_ = (([] : List (S33))) := ⟨_, rfl⟩
 replace H : (impl_tunePins.l0 k a1 a2 v0 l0 (l0.length : Int) 0) = some r := by first | (rw [jC]; with_reducible exact H) | (have H2_ := (Option.bind_some _ _).symm.trans H; rw [jC]; with_reducible exact H2_) | (have H2_ := (Option.bind_some _ _).symm.trans H; with_reducible exact H2_) | with_reducible exact H | (rw [jC]; exact H) | exact H
 have rU := Aside0.mk jC
 clear jC
 have H' := Aside0.mk H
 clear H
 go_enter Tryd.func37, Tryd.ntmps37
 go_wp2_with (first | ((with_reducible refine gate_dst (N := 10) rfl ?_); refine Kd.R_lit k33 _ 33 ?hg (N := 10) ?hd (xs := ([] : List (S33))) (inner := []) (ok := fun _ => True) (okp := fun _ => True) ?hr ?hp (fun _ hk => hk) trivial (Below.refl _ _) (Nat.le_refl _) (by simp) ?_; (case hd => rfl); (case hg => rfl); (case hr => exact Z34); (case hp => exact (Reps.none _ _)); intro v376 w4 ho5 hb hg_ hnew_; clear hg_ hnew_; (first | rw [← rU.out] at ho5 | (simp only [Int.reduceToNat] at ho5; rw [← rU.out] at ho5)); refine k2_ (Kd.R_lower ho5 (below_size (Z1))) (below_step (Z1) hb) ?_; clear HB; intro HO377 HB; clear hb ho5))
 (try simp only [Act.put, List.setIfInBounds_toArray, List.set_cons_zero, List.set_cons_succ])
 go_loopg [7, 13] k (fun kq v7 vZ w' => ∃ (ag : List (S33)) (al : Int), vZ = .int .i64 al ∧ Aside0 (impl_tunePins.l0 kq a1 a2 ag l0 (l0.length : Int) al = some r) ∧ Aside0 (kq ≤ k) ∧ Aside0 (Kd.R k33 33 w' w.heap.size (fun _ => True) v7 ag) ∧ Aside0 (Below w.heap.size w w'))
 case atStart => exact ⟨(v0), (0), (Z14), H', ⟨Nat.le_refl _⟩, ⟨Z2 HO377⟩, ⟨Z1⟩⟩
 case round =>
  clear H'
  (try clear p2); (try clear c3)
  obtain ⟨ag, al, rfl, HA, HK1, bp, HB⟩ := hrel
  cases gk with
  | zero => exact absurd HA.out (by simp [impl_tunePins.l0])
  | succ k1 =>
   have H := HA.out
   clear HA
   simp only [impl_tunePins.l0] at H
   by_cases c6 : al < (l0.length : Int)
   ·rw [if_pos c6] at H
    have en : decide (al < (l0.length : Int)) = true := decide_eq_true c6
    clear c6
    by_cases c7 : 0 ≤ al
    ·rw [if_pos c7] at H
     have dz : decide (0 ≤ al) = true := decide_eq_true c7
     clear c7
     by_cases c8 : al < (l0.length : Int)
     ·rw [if_pos c8] at H
      have iY : decide (al < (l0.length : Int)) = true := decide_eq_true c8
      clear c8
      by_cases c9 : ((((rd_T33 l0 al).f2) == a1) == a2) = true
      ·rw [if_pos c9] at H
       have fT : ((((rd_T33 l0 al).f2) == a1) == a2) = true := c9
       (try (have t7 : decide ((((rd_T33 l0 al).f2) == a1) = a2) = true := by simpa using c9))
       (try (have t8 : ((((rd_T33 l0 al).f2) == a1) == a2) = true := by simpa using c9))
       clear c9
       by_cases c10 : ag.length < 5864062014805
       ·rw [if_pos c10] at H
        have LMc10 := Aside0.mk c10
        clear c10
        obtain ⟨v2, jD⟩ : ∃ y_ : List (S33), y_ = (ag ++ [(⟨(rd_T33 l0 al).f0, (rd_T33 l0 al).f1, (rd_T33 l0 al).f2⟩ : S33)]) := ⟨_, rfl⟩
        replace H : (impl_tunePins.l0 k1 a1 a2 v2 l0 (l0.length : Int) (wrap64 (al + 1))) = some r := by first | (rw [jD]; with_reducible exact H) | (have H2_ := (Option.bind_some _ _).symm.trans H; rw [jD]; with_reducible exact H2_) | (have H2_ := (Option.bind_some _ _).symm.trans H; with_reducible exact H2_) | with_reducible exact H | (rw [jD]; exact H) | exact H
        have Ny380 := Aside0.mk jD
        clear jD
        have H' := Aside0.mk H
        clear H
        have mc : 0 ≤ (al : Int) := of_decide_eq_true (Z12)
        have me : al < (l0.length : Int) := of_decide_eq_true (Z12)
        obtain ⟨ad378, e378, dX, dY, dZ⟩ := at_T33 HR0.out al mc me
        cases e378
        replace dX := (HB.out.cell (World.block_lt_of_cell? w _ dX)).trans dX
        replace dY := (HB.out.cell (World.block_lt_of_cell? w _ dY)).trans dY
        replace dZ := (HB.out.cell (World.block_lt_of_cell? w _ dZ)).trans dZ
        replace mc := eq_true mc
        replace me := eq_true me
        go_wp2_with (first | ((with_reducible refine gate_dst (N := 9) rfl ?_); refine bv_ 9 33 #[.int .i64 0, .int .i64 0, .int .i64 0] ?_; intro cp hg eV hbox hb; refine k5_ (Kd.R_below (Kd.R_elderB (Z2 bp) cp (Nat.le_of_eq hg.symm)) hb) (below_step (Z1) hb) (hbox) ((Z23 : w.heap.size ≤ cp)) ((Z23 : w.heap.size ≤ cp)) ?_; clear bp HB; intro bp HB iK GW379 rS; clear hb hbox hg; obtain ⟨iZ, i1, i2, i3, i4, i5⟩ := bx3_ (w := eV) iK.out) | ((with_reducible refine gate_builtin (b := .append) (xs := #[.tmp 23, .tmp 25]) rfl ?_); at_builtin; refine Kd.R_append k33 (w0 := w) w.heap.size rfl (.tmp 23) (.tmp 25) 24 33 (.agg #[(.int .i64 0), (.int .i64 0), (.int .i64 0)]) 24 rfl Tryd.underlying24 info33 rfl (by decide) (by omega) u7 ag (⟨(rd_T33 l0 al).f0, (rd_T33 l0 al).f1, (rd_T33 l0 al).f2⟩ : S33) [.int .i64 ((rd_T33 l0 al).f0), .int .i64 ((rd_T33 l0 al).f1), .int .i64 ((rd_T33 l0 al).f2)] (fun k_ => k_ ≠ cp) (fun _ => False) rfl (Z34) ?aP (fun _ hk => hk.elim) ?aF ?aO ?aB ?aS ?aL ?_; (case aP => exact k33_mkM _ _ _ (⟨(rd_T33 l0 al).f0, (rd_T33 l0 al).f1, (rd_T33 l0 al).f2⟩ : S33)); (case aB => exact Z77); (case aF => exact (fun k_ hk => Kd.freshB (g := cp) (o := .cells #[.int .i64 ((rd_T33 l0 al).f0), .int .i64 ((rd_T33 l0 al).f1), .int .i64 ((rd_T33 l0 al).f2)] 33 (0, 0)) (Z58) k_ hk)); (case aO => exact (by (with_reducible repeat (first | apply Kd.R_alloc | apply Kd.R_drewN | apply Kd.R_drew)); exact Kd.R_mono (Kd.R_far (p := ⟨cp, 2, none⟩) (Kd.R_far (p := ⟨cp, 1, none⟩) (Kd.R_far (p := ⟨cp, 0, none⟩) (Kd.R_mono bp.out (fun k_ hk => (⟨hk, hk.2⟩ : _ ∧ k_ ≠ cp))) (fun _ hk => hk.2) (.int .i64 ((rd_T33 l0 al).f0))) (fun _ hk => hk.2) (.int .i64 ((rd_T33 l0 al).f1))) (fun _ hk => hk.2) (.int .i64 ((rd_T33 l0 al).f2))) (fun _ hk => hk.1.2))); (case aS => exact (below_size (Z77))); (case aL => exact Z82 LMc10); intro v381 fS ho hb hg hat; rw [← Ny380.out] at ho; refine k3_ (blk_grown (g := cp) (o := .cells #[.int .i64 ((rd_T33 l0 al).f0), .int .i64 ((rd_T33 l0 al).f1), .int .i64 ((rd_T33 l0 al).f2)] 33 (0, 0)) (Z58) hg (Kd.R_away bp.out (fun _ hk => hk.2))) (hb) (ho) ?_; clear iK HB bp; intro iK HB HO382; clear ho hb hg hat))
        go_roundg k1
        case measure => have := HK1.out; omega
        case rel => exact ⟨(v2), (wrap64 (al + 1)), (Z14), H', ⟨Z82 HK1⟩, ⟨Z26 HO382⟩, ⟨Z77⟩⟩
       rw [if_neg c10] at H
       exact absurd H (by simp)
      rw [if_neg c9] at H
      have fT : ((((rd_T33 l0 al).f2) == a1) == a2) = false := by simpa using c9
      (try (have t7 : decide ((((rd_T33 l0 al).f2) == a1) = a2) = false := by simpa using c9))
      (try (have t8 : ((((rd_T33 l0 al).f2) == a1) == a2) = false := by simpa using c9))
      (try (have c9b3 : ¬ ((((rd_T33 l0 al).f2) == a1) = a2) := by simpa using c9))
      clear c9
      have H' := Aside0.mk H
      clear H
      have mc : 0 ≤ (al : Int) := of_decide_eq_true (Z12)
      have me : al < (l0.length : Int) := of_decide_eq_true (Z12)
      obtain ⟨ad378, e378, dX, dY, dZ⟩ := at_T33 HR0.out al mc me
      cases e378
      replace dX := (HB.out.cell (World.block_lt_of_cell? w _ dX)).trans dX
      replace dY := (HB.out.cell (World.block_lt_of_cell? w _ dY)).trans dY
      replace dZ := (HB.out.cell (World.block_lt_of_cell? w _ dZ)).trans dZ
      replace mc := eq_true mc
      replace me := eq_true me
      go_wp2_with (first | ((with_reducible refine gate_dst (N := 9) rfl ?_); refine bv_ 9 33 #[.int .i64 0, .int .i64 0, .int .i64 0] ?_; intro cp hg vY hbox hb; refine k5_ (Kd.R_below (Kd.R_elderB (Z2 bp) cp (Nat.le_of_eq hg.symm)) hb) (below_step (Z1) hb) (hbox) ((Z23 : w.heap.size ≤ cp)) ((Z23 : w.heap.size ≤ cp)) ?_; clear bp HB; intro bp HB iK GW379 rS; clear hb hbox hg; obtain ⟨hcz15_0, hcz15_1, hcz15_2, hfz15_0, hfz15_1, hfz15_2⟩ := bx3_ (w := vY) iK.out))
      go_roundg k1
      case measure => have := HK1.out; omega
      case rel => exact ⟨(ag), (wrap64 (al + 1)), (Z14), H', ⟨Z82 HK1⟩, ⟨by (with_reducible repeat (first | apply Kd.R_alloc | apply Kd.R_drewN | apply Kd.R_drew)); exact Kd.R_mono (Kd.R_far (p := ⟨cp, 2, none⟩) (Kd.R_far (p := ⟨cp, 1, none⟩) (Kd.R_far (p := ⟨cp, 0, none⟩) (Kd.R_mono bp.out (fun k_ hk => (⟨hk, hk.2⟩ : _ ∧ k_ ≠ cp))) (fun _ hk => hk.2) (.int .i64 ((rd_T33 l0 al).f0))) (fun _ hk => hk.2) (.int .i64 ((rd_T33 l0 al).f1))) (fun _ hk => hk.2) (.int .i64 ((rd_T33 l0 al).f2))) (fun _ hk => trivial)⟩, ⟨Z77⟩⟩
     rw [if_neg c8] at H
     exact absurd H (by simp)
    rw [if_neg c7] at H
    exact absurd H (by simp)
   rw [if_neg c6] at H
   have en : decide (al < (l0.length : Int)) = false := decide_eq_false c6
   clear c6
   obtain rfl := Option.some.inj H
   go_wp2
   go_ret
   exact ⟨_, Z11, Z2 bp, Z1⟩

/-! ### impl_TuneOf: function 9 -/
def impl_TuneOf.f (k : Nat) (l0 : List (S33)) (a1 : Int) : Option ((List (S33)) × Bool) := (impl_ArePins.f k l0).bind fun oW => (if oW = true then ((impl_isShift.f a1).bind fun oX => (if oX = true then ((impl_tunePins.f k l0 a1 true).bind fun nU => (some (nU, true))) else (some (([] : List (S33)), false)))) else (some (([] : List (S33)), false)))
theorem impl_TuneOf.mono : ∀ a0 a1 k, LeO (impl_TuneOf.f k a0 a1) (impl_TuneOf.f (k + 1) a0 a1) := by
 intro a0 a1 k
 unfold impl_TuneOf.f
 exact mo10_
set_option maxHeartbeats 8000000 in
set_option maxRecDepth 100000 in
theorem impl_TuneOf.calls (k : Nat) (A0 : Option Addr) (c0 : Nat) (l0 : List (S33)) (a1 : Int) (r1 : List (S33)) (r2 : Bool) (w : World) (hr0 : Kd.C k33 w A0 l0.length l0) (hc0 : l0.length ≤ c0) (h : impl_TuneOf.f k l0 a1 = some (r1, r2)) :
  Calls Tryd.prog 9 #[.slice A0 l0.length c0, .int .i64 a1] w fun e w' => ∃ v0_ : Value, e = .returned (.tuple #[v0_, .bool r2]) ∧ Kd.R k33 33 w' w.heap.size (fun _ => True) v0_ r1 ∧ Below w.heap.size w w' := by
 have HR0 := Aside0.mk hr0
 have HC0 := Aside0.mk hc0
 clear hr0 hc0
 have HB := Aside0.mk (Below.refl w.heap.size w)
 have H : ((impl_ArePins.f k l0).bind fun oW => (if oW = true then ((impl_isShift.f a1).bind fun oX => (if oX = true then ((impl_tunePins.f k l0 a1 true).bind fun nU => (some (nU, true))) else (some (([] : List (S33)), false)))) else (some (([] : List (S33)), false)))) = some (r1, r2) := h
 clear h
 replace H := Option.bind_eq_some_iff.mp H
 obtain ⟨oW, dF, H⟩ := H
 (try dsimp only at H)
 have A3 := Aside0.mk dF
 clear dF
 by_cases c4 : oW = true
 ·subst c4
  rw [if_pos rfl] at H
  replace H := Option.bind_eq_some_iff.mp H
  obtain ⟨oX, dG, H⟩ := H
  (try dsimp only at H)
  have A5 := Aside0.mk dG
  clear dG
  by_cases c6 : oX = true
  ·subst c6
   rw [if_pos rfl] at H
   replace H := Option.bind_eq_some_iff.mp H
   obtain ⟨nU, ed, H⟩ := H
   replace H : (some (nU, true)) = some (r1, r2) := H
   have A7 := Aside0.mk ed
   clear ed
   simp only [Option.some.injEq, Prod.mk.injEq] at H
   obtain ⟨rfl, rfl⟩ := H
   go_enter Tryd.func9, Tryd.ntmps9
   go_wp2_with (first | ((with_reducible refine gate_callee (f := 13) rfl ?_); refine gl_ 7 Tryd.func13 #[.slice A0 l0.length c0] ?_; (with_reducible refine (impl_ArePins.calls k _ _ l0 true _ ?_ ?_ A3.out).mono ?_); exact (Z17 HR0); exact HC0.out; rintro e w8 ⟨rfl, hb⟩; refine ⟨_, rfl, ?_⟩; refine k1_ (below_step (Z1) hb) ?_; clear HB; intro HB; (try clear hb)) | (go_at_call 31; (with_reducible refine (impl_isShift.calls a1 true _ A5.out).mono ?_); rintro e w' ⟨rfl, ⟨nd, rfl⟩⟩) | ((with_reducible refine gate_callee (f := 37) rfl ?_); refine gl_ 16 Tryd.func37 #[.slice A0 l0.length c0, .int .i64 a1, .bool true] ?_; (with_reducible refine (impl_tunePins.calls k _ _ l0 a1 true nU _ ?_ ?_ A7.out).mono ?_); exact Z52; exact HC0.out; rintro e w9 ⟨v386, rfl, ho0, hb⟩; refine ⟨_, rfl, ?_⟩; refine k2_ (Kd.R_lower ho0 (below_size (Z1))) (below_step (Z1) hb) ?_; clear HB; intro HO387 HB; (try clear hb ho0)))
   go_ret2
   exact ⟨_, Z11, Z2 HO387, Z1⟩
  replace c6 := Bool.eq_false_iff.mpr c6
  subst c6
  rw [if_neg (show ¬ (false = true) by decide)] at H
  simp only [Option.some.injEq, Prod.mk.injEq] at H
  obtain ⟨rfl, rfl⟩ := H
  go_enter Tryd.func9, Tryd.ntmps9
  go_wp2_with (first | ((with_reducible refine gate_callee (f := 13) rfl ?_); refine gl_ 7 Tryd.func13 #[.slice A0 l0.length c0] ?_; (with_reducible refine (impl_ArePins.calls k _ _ l0 true _ ?_ ?_ A3.out).mono ?_); exact (Z17 HR0); exact HC0.out; rintro e jE ⟨rfl, hb⟩; refine ⟨_, rfl, ?_⟩; refine k1_ (below_step (Z1) hb) ?_; clear HB; intro HB; (try clear hb)) | (go_at_call 31; (with_reducible refine (impl_isShift.calls a1 false _ A5.out).mono ?_); rintro e w' ⟨rfl, ⟨nd, rfl⟩⟩))
  go_ret2
  exact ⟨_, Z11, Z21, Z1⟩
 replace c4 := Bool.eq_false_iff.mpr c4
 subst c4
 rw [if_neg (show ¬ (false = true) by decide)] at H
 simp only [Option.some.injEq, Prod.mk.injEq] at H
 obtain ⟨rfl, rfl⟩ := H
 go_enter Tryd.func9, Tryd.ntmps9
 go_wp2_with (first | ((with_reducible refine gate_callee (f := 13) rfl ?_); refine gl_ 7 Tryd.func13 #[.slice A0 l0.length c0] ?_; (with_reducible refine (impl_ArePins.calls k _ _ l0 false _ ?_ ?_ A3.out).mono ?_); exact (Z17 HR0); exact HC0.out; rintro e eV ⟨rfl, hb⟩; refine ⟨_, rfl, ?_⟩; refine k1_ (below_step (Z1) hb) ?_; clear HB; intro HB; (try clear hb)))
 go_ret2
 exact ⟨_, Z11, Z21, Z1⟩

/-! ### spec_cyPart: function 38 -/
def spec_cyPart.l0 : Nat → Int → Bool → List (S33) → List (S33) → Int → Int → Option ((List (S33)))
 | 0, _, _, _, _, _, _ => none
 | k + 1, x1, x2, x7, x10, x11, x12 => if x12 < x11 then (if 0 ≤ x12 then (if x12 < (x10.length : Int) then (if ((((rd_T33 x10 x12).f2) == x1) == x2) = true then (if x7.length < 5864062014805 then (spec_cyPart.l0 k x1 x2 (x7 ++ [(⟨(rd_T33 x10 x12).f0, (rd_T33 x10 x12).f1, (rd_T33 x10 x12).f2⟩ : S33)]) x10 x11 (wrap64 (x12 + 1))) else (none)) else (spec_cyPart.l0 k x1 x2 x7 x10 x11 (wrap64 (x12 + 1)))) else (none)) else (none)) else (some x7)
def spec_cyPart.f (k : Nat) (l0 : List (S33)) (a1 : Int) (a2 : Bool) : Option ((List (S33))) := spec_cyPart.l0 k a1 a2 ([] : List (S33)) l0 (l0.length : Int) 0
theorem spec_cyPart.mono_l : ∀ k, (∀ y0 y1 y2 y3 y4 y5, LeO (spec_cyPart.l0 k y0 y1 y2 y3 y4 y5) (spec_cyPart.l0 (k + 1) y0 y1 y2 y3 y4 y5))
 | 0 => fun _ _ _ _ _ _ r h => by simp [spec_cyPart.l0] at h
 | k + 1 => by
  have ih0 := spec_cyPart.mono_l k
  ·intro y0 y1 y2 y3 y4 y5
   unfold spec_cyPart.l0
   exact mo10_
theorem spec_cyPart.mono : ∀ a0 a1 a2 k, LeO (spec_cyPart.f k a0 a1 a2) (spec_cyPart.f (k + 1) a0 a1 a2) := by
 intro a0 a1 a2 k
 have ih0 := spec_cyPart.mono_l k
 unfold spec_cyPart.f
 exact mo10_
set_option maxHeartbeats 8000000 in
set_option maxRecDepth 100000 in
theorem spec_cyPart.calls (k : Nat) (A0 : Option Addr) (c0 : Nat) (l0 : List (S33)) (a1 : Int) (a2 : Bool) (r : List (S33)) (w : World) (hr0 : Kd.C k33 w A0 l0.length l0) (hc0 : l0.length ≤ c0) (h : spec_cyPart.f k l0 a1 a2 = some r) :
  Calls Tryd.prog 38 #[.slice A0 l0.length c0, .int .i64 a1, .bool a2] w fun e w' => ∃ v0_ : Value, e = .returned (v0_) ∧ Kd.R k33 33 w' w.heap.size (fun _ => True) v0_ r ∧ Below w.heap.size w w' := by
 have hu33 := Tryd.underlying33
 have HR0 := Aside0.mk hr0
 have HC0 := Aside0.mk hc0
 clear hr0 hc0
 have HB := Aside0.mk (Below.refl w.heap.size w)
 have H : (spec_cyPart.l0 k a1 a2 ([] : List (S33)) l0 (l0.length : Int) 0) = some r := h
 clear h
 have H' := Aside0.mk H
 clear H
 go_enter Tryd.func38, Tryd.ntmps38
 go_wp2
 go_loopg [7, 12] k (fun kq v7 v6 w' => ∃ (ag : List (S33)) (an : Int), v6 = .int .i64 an ∧ Aside0 (spec_cyPart.l0 kq a1 a2 ag l0 (l0.length : Int) an = some r) ∧ Aside0 (kq ≤ k) ∧ Aside0 (Kd.R k33 33 w' w.heap.size (fun _ => True) v7 ag) ∧ Aside0 (Below w.heap.size w w'))
 case atStart => exact ⟨(([] : List (S33))), (0), (Z14), H', ⟨Nat.le_refl _⟩, ⟨Z21⟩, ⟨Z1⟩⟩
 case round =>
  clear H'
  (try clear p2); (try clear c3)
  obtain ⟨ag, an, rfl, HA, HK1, bp, HB⟩ := hrel
  cases gk with
  | zero => exact absurd HA.out (by simp [spec_cyPart.l0])
  | succ k1 =>
   have H := HA.out
   clear HA
   simp only [spec_cyPart.l0] at H
   by_cases c4 : an < (l0.length : Int)
   ·rw [if_pos c4] at H
    have cy : decide (an < (l0.length : Int)) = true := decide_eq_true c4
    clear c4
    by_cases c5 : 0 ≤ an
    ·rw [if_pos c5] at H
     have e3 : decide (0 ≤ an) = true := decide_eq_true c5
     clear c5
     by_cases c6 : an < (l0.length : Int)
     ·rw [if_pos c6] at H
      have en : decide (an < (l0.length : Int)) = true := decide_eq_true c6
      clear c6
      by_cases c7 : ((((rd_T33 l0 an).f2) == a1) == a2) = true
      ·rw [if_pos c7] at H
       have dz : ((((rd_T33 l0 an).f2) == a1) == a2) = true := c7
       (try (have oY : decide ((((rd_T33 l0 an).f2) == a1) = a2) = true := by simpa using c7))
       (try (have wa : ((((rd_T33 l0 an).f2) == a1) == a2) = true := by simpa using c7))
       clear c7
       by_cases c8 : ag.length < 5864062014805
       ·rw [if_pos c8] at H
        have oZ := Aside0.mk c8
        clear c8
        obtain ⟨wb, jF⟩ : ∃ y_ : List (S33), y_ = (ag ++ [(⟨(rd_T33 l0 an).f0, (rd_T33 l0 an).f1, (rd_T33 l0 an).f2⟩ : S33)]) := ⟨_, rfl⟩
        replace H : (spec_cyPart.l0 k1 a1 a2 wb l0 (l0.length : Int) (wrap64 (an + 1))) = some r := by first | (rw [jF]; with_reducible exact H) | (have H2_ := (Option.bind_some _ _).symm.trans H; rw [jF]; with_reducible exact H2_) | (have H2_ := (Option.bind_some _ _).symm.trans H; with_reducible exact H2_) | with_reducible exact H | (rw [jF]; exact H) | exact H
        have Ny390 := Aside0.mk jF
        clear jF
        have H' := Aside0.mk H
        clear H
        have mf : 0 ≤ (an : Int) := of_decide_eq_true (Z12)
        have mg : an < (l0.length : Int) := of_decide_eq_true (Z12)
        obtain ⟨ad388, e388, d0, d1, d2⟩ := at_T33 HR0.out an mf mg
        cases e388
        replace d0 := (HB.out.cell (World.block_lt_of_cell? w _ d0)).trans d0
        replace d1 := (HB.out.cell (World.block_lt_of_cell? w _ d1)).trans d1
        replace d2 := (HB.out.cell (World.block_lt_of_cell? w _ d2)).trans d2
        replace mf := eq_true mf
        replace mg := eq_true mg
        go_wp2_with (first | ((with_reducible refine gate_dst (N := 9) rfl ?_); refine bv_ 9 33 #[.int .i64 0, .int .i64 0, .int .i64 0] ?_; intro cq hg w9 hbox hb; refine k5_ (Kd.R_below (Kd.R_elderB (Z2 bp) cq (Nat.le_of_eq hg.symm)) hb) (below_step (Z1) hb) (hbox) ((Z23 : w.heap.size ≤ cq)) ((Z23 : w.heap.size ≤ cq)) ?_; clear bp HB; intro bp HB gY GW389 rR; clear hb hbox hg; obtain ⟨i6, i7, i8, i9, ja, jb⟩ := bx3_ (w := w9) gY.out) | ((with_reducible refine gate_builtin (b := .append) (xs := #[.tmp 22, .tmp 24]) rfl ?_); at_builtin; refine Kd.R_append k33 (w0 := w) w.heap.size rfl (.tmp 22) (.tmp 24) 24 33 (.agg #[(.int .i64 0), (.int .i64 0), (.int .i64 0)]) 24 rfl Tryd.underlying24 info33 rfl (by decide) (by omega) u7 ag (⟨(rd_T33 l0 an).f0, (rd_T33 l0 an).f1, (rd_T33 l0 an).f2⟩ : S33) [.int .i64 ((rd_T33 l0 an).f0), .int .i64 ((rd_T33 l0 an).f1), .int .i64 ((rd_T33 l0 an).f2)] (fun k_ => k_ ≠ cq) (fun _ => False) rfl (Z34) ?aP (fun _ hk => hk.elim) ?aF ?aO ?aB ?aS ?aL ?_; (case aP => exact k33_mkM _ _ _ (⟨(rd_T33 l0 an).f0, (rd_T33 l0 an).f1, (rd_T33 l0 an).f2⟩ : S33)); (case aB => exact Z78); (case aF => exact (fun k_ hk => Kd.freshB (g := cq) (o := .cells #[.int .i64 ((rd_T33 l0 an).f0), .int .i64 ((rd_T33 l0 an).f1), .int .i64 ((rd_T33 l0 an).f2)] 33 (0, 0)) (Z32 gY) k_ hk)); (case aO => exact (by (with_reducible repeat (first | apply Kd.R_alloc | apply Kd.R_drewN | apply Kd.R_drew)); exact Kd.R_mono (Kd.R_far (p := ⟨cq, 2, none⟩) (Kd.R_far (p := ⟨cq, 1, none⟩) (Kd.R_far (p := ⟨cq, 0, none⟩) (Kd.R_mono bp.out (fun k_ hk => (⟨hk, hk.2⟩ : _ ∧ k_ ≠ cq))) (fun _ hk => hk.2) (.int .i64 ((rd_T33 l0 an).f0))) (fun _ hk => hk.2) (.int .i64 ((rd_T33 l0 an).f1))) (fun _ hk => hk.2) (.int .i64 ((rd_T33 l0 an).f2))) (fun _ hk => hk.1.2))); (case aS => exact (below_size (Z78))); (case aL => exact Z82 oZ); intro v391 eV ho hb hg hat; rw [← Ny390.out] at ho; refine k3_ (blk_grown (g := cq) (o := .cells #[.int .i64 ((rd_T33 l0 an).f0), .int .i64 ((rd_T33 l0 an).f1), .int .i64 ((rd_T33 l0 an).f2)] 33 (0, 0)) (Z32 gY) hg (Kd.R_away bp.out (fun _ hk => hk.2))) (hb) (ho) ?_; clear gY HB bp; intro gY HB HO392; clear ho hb hg hat))
        go_roundg k1
        case measure => have := HK1.out; omega
        case rel => exact ⟨(wb), (wrap64 (an + 1)), (Z14), H', ⟨Z82 HK1⟩, ⟨Z26 HO392⟩, ⟨Z78⟩⟩
       rw [if_neg c8] at H
       exact absurd H (by simp)
      rw [if_neg c7] at H
      have dz : ((((rd_T33 l0 an).f2) == a1) == a2) = false := by simpa using c7
      (try (have oY : decide ((((rd_T33 l0 an).f2) == a1) = a2) = false := by simpa using c7))
      (try (have wa : ((((rd_T33 l0 an).f2) == a1) == a2) = false := by simpa using c7))
      (try (have c7b3 : ¬ ((((rd_T33 l0 an).f2) == a1) = a2) := by simpa using c7))
      clear c7
      have H' := Aside0.mk H
      clear H
      have mf : 0 ≤ (an : Int) := of_decide_eq_true (Z12)
      have mg : an < (l0.length : Int) := of_decide_eq_true (Z12)
      obtain ⟨ad388, e388, d0, d1, d2⟩ := at_T33 HR0.out an mf mg
      cases e388
      replace d0 := (HB.out.cell (World.block_lt_of_cell? w _ d0)).trans d0
      replace d1 := (HB.out.cell (World.block_lt_of_cell? w _ d1)).trans d1
      replace d2 := (HB.out.cell (World.block_lt_of_cell? w _ d2)).trans d2
      replace mf := eq_true mf
      replace mg := eq_true mg
      go_wp2_with (first | ((with_reducible refine gate_dst (N := 9) rfl ?_); refine bv_ 9 33 #[.int .i64 0, .int .i64 0, .int .i64 0] ?_; intro cq hg oU hbox hb; refine k5_ (Kd.R_below (Kd.R_elderB (Z2 bp) cq (Nat.le_of_eq hg.symm)) hb) (below_step (Z1) hb) (hbox) ((Z23 : w.heap.size ≤ cq)) ((Z23 : w.heap.size ≤ cq)) ?_; clear bp HB; intro bp HB gY GW389 rR; clear hb hbox hg; obtain ⟨mV, mW, mX, mY, mZ, m0⟩ := bx3_ (w := oU) gY.out))
      go_roundg k1
      case measure => have := HK1.out; omega
      case rel => exact ⟨(ag), (wrap64 (an + 1)), (Z14), H', ⟨Z82 HK1⟩, ⟨by (with_reducible repeat (first | apply Kd.R_alloc | apply Kd.R_drewN | apply Kd.R_drew)); exact Kd.R_mono (Kd.R_far (p := ⟨cq, 2, none⟩) (Kd.R_far (p := ⟨cq, 1, none⟩) (Kd.R_far (p := ⟨cq, 0, none⟩) (Kd.R_mono bp.out (fun k_ hk => (⟨hk, hk.2⟩ : _ ∧ k_ ≠ cq))) (fun _ hk => hk.2) (.int .i64 ((rd_T33 l0 an).f0))) (fun _ hk => hk.2) (.int .i64 ((rd_T33 l0 an).f1))) (fun _ hk => hk.2) (.int .i64 ((rd_T33 l0 an).f2))) (fun _ hk => trivial)⟩, ⟨Z78⟩⟩
     rw [if_neg c6] at H
     exact absurd H (by simp)
    rw [if_neg c5] at H
    exact absurd H (by simp)
   rw [if_neg c4] at H
   have cy : decide (an < (l0.length : Int)) = false := decide_eq_false c4
   clear c4
   obtain rfl := Option.some.inj H
   go_wp2
   go_ret
   exact ⟨_, Z11, Z2 bp, Z1⟩

/-! ### spec_TuneOf: function 10 -/
def spec_TuneOf.f (k : Nat) (l0 : List (S33)) (a1 : Int) : Option ((List (S33)) × Bool) := (spec_cyGood.f k l0).bind fun o0 => (if o0 = true then ((spec_cyShift.f a1).bind fun o1 => (if o1 = true then ((spec_cyPart.f k l0 a1 true).bind fun nV => (some (nV, true))) else (some (([] : List (S33)), false)))) else (some (([] : List (S33)), false)))
theorem spec_TuneOf.mono : ∀ a0 a1 k, LeO (spec_TuneOf.f k a0 a1) (spec_TuneOf.f (k + 1) a0 a1) := by
 intro a0 a1 k
 unfold spec_TuneOf.f
 exact mo10_
set_option maxHeartbeats 8000000 in
set_option maxRecDepth 100000 in
theorem spec_TuneOf.calls (k : Nat) (A0 : Option Addr) (c0 : Nat) (l0 : List (S33)) (a1 : Int) (r1 : List (S33)) (r2 : Bool) (w : World) (hr0 : Kd.C k33 w A0 l0.length l0) (hc0 : l0.length ≤ c0) (h : spec_TuneOf.f k l0 a1 = some (r1, r2)) :
  Calls Tryd.prog 10 #[.slice A0 l0.length c0, .int .i64 a1] w fun e w' => ∃ v0_ : Value, e = .returned (.tuple #[v0_, .bool r2]) ∧ Kd.R k33 33 w' w.heap.size (fun _ => True) v0_ r1 ∧ Below w.heap.size w w' := by
 have HR0 := Aside0.mk hr0
 have HC0 := Aside0.mk hc0
 clear hr0 hc0
 have HB := Aside0.mk (Below.refl w.heap.size w)
 have H : ((spec_cyGood.f k l0).bind fun o0 => (if o0 = true then ((spec_cyShift.f a1).bind fun o1 => (if o1 = true then ((spec_cyPart.f k l0 a1 true).bind fun nV => (some (nV, true))) else (some (([] : List (S33)), false)))) else (some (([] : List (S33)), false)))) = some (r1, r2) := h
 clear h
 replace H := Option.bind_eq_some_iff.mp H
 obtain ⟨o0, dF, H⟩ := H
 (try dsimp only at H)
 have A3 := Aside0.mk dF
 clear dF
 by_cases c4 : o0 = true
 ·subst c4
  rw [if_pos rfl] at H
  replace H := Option.bind_eq_some_iff.mp H
  obtain ⟨o1, dG, H⟩ := H
  (try dsimp only at H)
  have A5 := Aside0.mk dG
  clear dG
  by_cases c6 : o1 = true
  ·subst c6
   rw [if_pos rfl] at H
   replace H := Option.bind_eq_some_iff.mp H
   obtain ⟨nV, ed, H⟩ := H
   replace H : (some (nV, true)) = some (r1, r2) := H
   have A7 := Aside0.mk ed
   clear ed
   simp only [Option.some.injEq, Prod.mk.injEq] at H
   obtain ⟨rfl, rfl⟩ := H
   go_enter Tryd.func10, Tryd.ntmps10
   go_wp2_with (first | ((with_reducible refine gate_callee (f := 33) rfl ?_); refine gl_ 7 Tryd.func33 #[.slice A0 l0.length c0] ?_; (with_reducible refine (spec_cyGood.calls k _ _ l0 true _ ?_ ?_ A3.out).mono ?_); exact (Z17 HR0); exact HC0.out; rintro e w8 ⟨rfl, hb⟩; refine ⟨_, rfl, ?_⟩; refine k1_ (below_step (Z1) hb) ?_; clear HB; intro HB; (try clear hb)) | (go_at_call 34; (with_reducible refine (spec_cyShift.calls a1 true _ A5.out).mono ?_); rintro e w' ⟨rfl, ⟨nd, rfl⟩⟩) | ((with_reducible refine gate_callee (f := 38) rfl ?_); refine gl_ 16 Tryd.func38 #[.slice A0 l0.length c0, .int .i64 a1, .bool true] ?_; (with_reducible refine (spec_cyPart.calls k _ _ l0 a1 true nV _ ?_ ?_ A7.out).mono ?_); exact Z52; exact HC0.out; rintro e w9 ⟨v396, rfl, ho0, hb⟩; refine ⟨_, rfl, ?_⟩; refine k2_ (Kd.R_lower ho0 (below_size (Z1))) (below_step (Z1) hb) ?_; clear HB; intro HO397 HB; (try clear hb ho0)))
   go_ret2
   exact ⟨_, Z11, Z2 HO397, Z1⟩
  replace c6 := Bool.eq_false_iff.mpr c6
  subst c6
  rw [if_neg (show ¬ (false = true) by decide)] at H
  simp only [Option.some.injEq, Prod.mk.injEq] at H
  obtain ⟨rfl, rfl⟩ := H
  go_enter Tryd.func10, Tryd.ntmps10
  go_wp2_with (first | ((with_reducible refine gate_callee (f := 33) rfl ?_); refine gl_ 7 Tryd.func33 #[.slice A0 l0.length c0] ?_; (with_reducible refine (spec_cyGood.calls k _ _ l0 true _ ?_ ?_ A3.out).mono ?_); exact (Z17 HR0); exact HC0.out; rintro e jE ⟨rfl, hb⟩; refine ⟨_, rfl, ?_⟩; refine k1_ (below_step (Z1) hb) ?_; clear HB; intro HB; (try clear hb)) | (go_at_call 34; (with_reducible refine (spec_cyShift.calls a1 false _ A5.out).mono ?_); rintro e w' ⟨rfl, ⟨nd, rfl⟩⟩))
  go_ret2
  exact ⟨_, Z11, Z21, Z1⟩
 replace c4 := Bool.eq_false_iff.mpr c4
 subst c4
 rw [if_neg (show ¬ (false = true) by decide)] at H
 simp only [Option.some.injEq, Prod.mk.injEq] at H
 obtain ⟨rfl, rfl⟩ := H
 go_enter Tryd.func10, Tryd.ntmps10
 go_wp2_with (first | ((with_reducible refine gate_callee (f := 33) rfl ?_); refine gl_ 7 Tryd.func33 #[.slice A0 l0.length c0] ?_; (with_reducible refine (spec_cyGood.calls k _ _ l0 false _ ?_ ?_ A3.out).mono ?_); exact (Z17 HR0); exact HC0.out; rintro e eV ⟨rfl, hb⟩; refine ⟨_, rfl, ?_⟩; refine k1_ (below_step (Z1) hb) ?_; clear HB; intro HB; (try clear hb)))
 go_ret2
 exact ⟨_, Z11, Z21, Z1⟩

/-! ### impl_WithoutTune: function 11 -/
def impl_WithoutTune.f (k : Nat) (l0 : List (S33)) (a1 : Int) : Option ((List (S33)) × Bool) := (impl_ArePins.f k l0).bind fun o2 => (if o2 = true then ((impl_isShift.f a1).bind fun o3 => (if o3 = true then ((impl_tunePins.f k l0 a1 false).bind fun nW => (some (nW, true))) else (some (([] : List (S33)), false)))) else (some (([] : List (S33)), false)))
theorem impl_WithoutTune.mono : ∀ a0 a1 k, LeO (impl_WithoutTune.f k a0 a1) (impl_WithoutTune.f (k + 1) a0 a1) := by
 intro a0 a1 k
 unfold impl_WithoutTune.f
 exact mo10_
set_option maxHeartbeats 8000000 in
set_option maxRecDepth 100000 in
theorem impl_WithoutTune.calls (k : Nat) (A0 : Option Addr) (c0 : Nat) (l0 : List (S33)) (a1 : Int) (r1 : List (S33)) (r2 : Bool) (w : World) (hr0 : Kd.C k33 w A0 l0.length l0) (hc0 : l0.length ≤ c0) (h : impl_WithoutTune.f k l0 a1 = some (r1, r2)) :
  Calls Tryd.prog 11 #[.slice A0 l0.length c0, .int .i64 a1] w fun e w' => ∃ v0_ : Value, e = .returned (.tuple #[v0_, .bool r2]) ∧ Kd.R k33 33 w' w.heap.size (fun _ => True) v0_ r1 ∧ Below w.heap.size w w' := by
 have HR0 := Aside0.mk hr0
 have HC0 := Aside0.mk hc0
 clear hr0 hc0
 have HB := Aside0.mk (Below.refl w.heap.size w)
 have H : ((impl_ArePins.f k l0).bind fun o2 => (if o2 = true then ((impl_isShift.f a1).bind fun o3 => (if o3 = true then ((impl_tunePins.f k l0 a1 false).bind fun nW => (some (nW, true))) else (some (([] : List (S33)), false)))) else (some (([] : List (S33)), false)))) = some (r1, r2) := h
 clear h
 replace H := Option.bind_eq_some_iff.mp H
 obtain ⟨o2, dF, H⟩ := H
 (try dsimp only at H)
 have A3 := Aside0.mk dF
 clear dF
 by_cases c4 : o2 = true
 ·subst c4
  rw [if_pos rfl] at H
  replace H := Option.bind_eq_some_iff.mp H
  obtain ⟨o3, dG, H⟩ := H
  (try dsimp only at H)
  have A5 := Aside0.mk dG
  clear dG
  by_cases c6 : o3 = true
  ·subst c6
   rw [if_pos rfl] at H
   replace H := Option.bind_eq_some_iff.mp H
   obtain ⟨nW, ed, H⟩ := H
   replace H : (some (nW, true)) = some (r1, r2) := H
   have A7 := Aside0.mk ed
   clear ed
   simp only [Option.some.injEq, Prod.mk.injEq] at H
   obtain ⟨rfl, rfl⟩ := H
   go_enter Tryd.func11, Tryd.ntmps11
   go_wp2_with (first | ((with_reducible refine gate_callee (f := 13) rfl ?_); refine gl_ 7 Tryd.func13 #[.slice A0 l0.length c0] ?_; (with_reducible refine (impl_ArePins.calls k _ _ l0 true _ ?_ ?_ A3.out).mono ?_); exact (Z17 HR0); exact HC0.out; rintro e w8 ⟨rfl, hb⟩; refine ⟨_, rfl, ?_⟩; refine k1_ (below_step (Z1) hb) ?_; clear HB; intro HB; (try clear hb)) | (go_at_call 31; (with_reducible refine (impl_isShift.calls a1 true _ A5.out).mono ?_); rintro e w' ⟨rfl, ⟨nd, rfl⟩⟩) | ((with_reducible refine gate_callee (f := 37) rfl ?_); refine gl_ 16 Tryd.func37 #[.slice A0 l0.length c0, .int .i64 a1, .bool false] ?_; (with_reducible refine (impl_tunePins.calls k _ _ l0 a1 false nW _ ?_ ?_ A7.out).mono ?_); exact Z52; exact HC0.out; rintro e w9 ⟨v401, rfl, ho0, hb⟩; refine ⟨_, rfl, ?_⟩; refine k2_ (Kd.R_lower ho0 (below_size (Z1))) (below_step (Z1) hb) ?_; clear HB; intro HO402 HB; (try clear hb ho0)))
   go_ret2
   exact ⟨_, Z11, Z2 HO402, Z1⟩
  replace c6 := Bool.eq_false_iff.mpr c6
  subst c6
  rw [if_neg (show ¬ (false = true) by decide)] at H
  simp only [Option.some.injEq, Prod.mk.injEq] at H
  obtain ⟨rfl, rfl⟩ := H
  go_enter Tryd.func11, Tryd.ntmps11
  go_wp2_with (first | ((with_reducible refine gate_callee (f := 13) rfl ?_); refine gl_ 7 Tryd.func13 #[.slice A0 l0.length c0] ?_; (with_reducible refine (impl_ArePins.calls k _ _ l0 true _ ?_ ?_ A3.out).mono ?_); exact (Z17 HR0); exact HC0.out; rintro e jE ⟨rfl, hb⟩; refine ⟨_, rfl, ?_⟩; refine k1_ (below_step (Z1) hb) ?_; clear HB; intro HB; (try clear hb)) | (go_at_call 31; (with_reducible refine (impl_isShift.calls a1 false _ A5.out).mono ?_); rintro e w' ⟨rfl, ⟨nd, rfl⟩⟩))
  go_ret2
  exact ⟨_, Z11, Z21, Z1⟩
 replace c4 := Bool.eq_false_iff.mpr c4
 subst c4
 rw [if_neg (show ¬ (false = true) by decide)] at H
 simp only [Option.some.injEq, Prod.mk.injEq] at H
 obtain ⟨rfl, rfl⟩ := H
 go_enter Tryd.func11, Tryd.ntmps11
 go_wp2_with (first | ((with_reducible refine gate_callee (f := 13) rfl ?_); refine gl_ 7 Tryd.func13 #[.slice A0 l0.length c0] ?_; (with_reducible refine (impl_ArePins.calls k _ _ l0 false _ ?_ ?_ A3.out).mono ?_); exact (Z17 HR0); exact HC0.out; rintro e eV ⟨rfl, hb⟩; refine ⟨_, rfl, ?_⟩; refine k1_ (below_step (Z1) hb) ?_; clear HB; intro HB; (try clear hb)))
 go_ret2
 exact ⟨_, Z11, Z21, Z1⟩

/-! ### spec_WithoutTune: function 12 -/
def spec_WithoutTune.f (k : Nat) (l0 : List (S33)) (a1 : Int) : Option ((List (S33)) × Bool) := (spec_cyGood.f k l0).bind fun o4 => (if o4 = true then ((spec_cyShift.f a1).bind fun o5 => (if o5 = true then ((spec_cyPart.f k l0 a1 false).bind fun nX => (some (nX, true))) else (some (([] : List (S33)), false)))) else (some (([] : List (S33)), false)))
theorem spec_WithoutTune.mono : ∀ a0 a1 k, LeO (spec_WithoutTune.f k a0 a1) (spec_WithoutTune.f (k + 1) a0 a1) := by
 intro a0 a1 k
 unfold spec_WithoutTune.f
 exact mo10_
set_option maxHeartbeats 8000000 in
set_option maxRecDepth 100000 in
theorem spec_WithoutTune.calls (k : Nat) (A0 : Option Addr) (c0 : Nat) (l0 : List (S33)) (a1 : Int) (r1 : List (S33)) (r2 : Bool) (w : World) (hr0 : Kd.C k33 w A0 l0.length l0) (hc0 : l0.length ≤ c0) (h : spec_WithoutTune.f k l0 a1 = some (r1, r2)) :
  Calls Tryd.prog 12 #[.slice A0 l0.length c0, .int .i64 a1] w fun e w' => ∃ v0_ : Value, e = .returned (.tuple #[v0_, .bool r2]) ∧ Kd.R k33 33 w' w.heap.size (fun _ => True) v0_ r1 ∧ Below w.heap.size w w' := by
 have HR0 := Aside0.mk hr0
 have HC0 := Aside0.mk hc0
 clear hr0 hc0
 have HB := Aside0.mk (Below.refl w.heap.size w)
 have H : ((spec_cyGood.f k l0).bind fun o4 => (if o4 = true then ((spec_cyShift.f a1).bind fun o5 => (if o5 = true then ((spec_cyPart.f k l0 a1 false).bind fun nX => (some (nX, true))) else (some (([] : List (S33)), false)))) else (some (([] : List (S33)), false)))) = some (r1, r2) := h
 clear h
 replace H := Option.bind_eq_some_iff.mp H
 obtain ⟨o4, dF, H⟩ := H
 (try dsimp only at H)
 have A3 := Aside0.mk dF
 clear dF
 by_cases c4 : o4 = true
 ·subst c4
  rw [if_pos rfl] at H
  replace H := Option.bind_eq_some_iff.mp H
  obtain ⟨o5, dG, H⟩ := H
  (try dsimp only at H)
  have A5 := Aside0.mk dG
  clear dG
  by_cases c6 : o5 = true
  ·subst c6
   rw [if_pos rfl] at H
   replace H := Option.bind_eq_some_iff.mp H
   obtain ⟨nX, ed, H⟩ := H
   replace H : (some (nX, true)) = some (r1, r2) := H
   have A7 := Aside0.mk ed
   clear ed
   simp only [Option.some.injEq, Prod.mk.injEq] at H
   obtain ⟨rfl, rfl⟩ := H
   go_enter Tryd.func12, Tryd.ntmps12
   go_wp2_with (first | ((with_reducible refine gate_callee (f := 33) rfl ?_); refine gl_ 7 Tryd.func33 #[.slice A0 l0.length c0] ?_; (with_reducible refine (spec_cyGood.calls k _ _ l0 true _ ?_ ?_ A3.out).mono ?_); exact (Z17 HR0); exact HC0.out; rintro e w8 ⟨rfl, hb⟩; refine ⟨_, rfl, ?_⟩; refine k1_ (below_step (Z1) hb) ?_; clear HB; intro HB; (try clear hb)) | (go_at_call 34; (with_reducible refine (spec_cyShift.calls a1 true _ A5.out).mono ?_); rintro e w' ⟨rfl, ⟨nd, rfl⟩⟩) | ((with_reducible refine gate_callee (f := 38) rfl ?_); refine gl_ 16 Tryd.func38 #[.slice A0 l0.length c0, .int .i64 a1, .bool false] ?_; (with_reducible refine (spec_cyPart.calls k _ _ l0 a1 false nX _ ?_ ?_ A7.out).mono ?_); exact Z52; exact HC0.out; rintro e w9 ⟨v406, rfl, ho0, hb⟩; refine ⟨_, rfl, ?_⟩; refine k2_ (Kd.R_lower ho0 (below_size (Z1))) (below_step (Z1) hb) ?_; clear HB; intro HO407 HB; (try clear hb ho0)))
   go_ret2
   exact ⟨_, Z11, Z2 HO407, Z1⟩
  replace c6 := Bool.eq_false_iff.mpr c6
  subst c6
  rw [if_neg (show ¬ (false = true) by decide)] at H
  simp only [Option.some.injEq, Prod.mk.injEq] at H
  obtain ⟨rfl, rfl⟩ := H
  go_enter Tryd.func12, Tryd.ntmps12
  go_wp2_with (first | ((with_reducible refine gate_callee (f := 33) rfl ?_); refine gl_ 7 Tryd.func33 #[.slice A0 l0.length c0] ?_; (with_reducible refine (spec_cyGood.calls k _ _ l0 true _ ?_ ?_ A3.out).mono ?_); exact (Z17 HR0); exact HC0.out; rintro e jE ⟨rfl, hb⟩; refine ⟨_, rfl, ?_⟩; refine k1_ (below_step (Z1) hb) ?_; clear HB; intro HB; (try clear hb)) | (go_at_call 34; (with_reducible refine (spec_cyShift.calls a1 false _ A5.out).mono ?_); rintro e w' ⟨rfl, ⟨nd, rfl⟩⟩))
  go_ret2
  exact ⟨_, Z11, Z21, Z1⟩
 replace c4 := Bool.eq_false_iff.mpr c4
 subst c4
 rw [if_neg (show ¬ (false = true) by decide)] at H
 simp only [Option.some.injEq, Prod.mk.injEq] at H
 obtain ⟨rfl, rfl⟩ := H
 go_enter Tryd.func12, Tryd.ntmps12
 go_wp2_with (first | ((with_reducible refine gate_callee (f := 33) rfl ?_); refine gl_ 7 Tryd.func33 #[.slice A0 l0.length c0] ?_; (with_reducible refine (spec_cyGood.calls k _ _ l0 false _ ?_ ?_ A3.out).mono ?_); exact (Z17 HR0); exact HC0.out; rintro e eV ⟨rfl, hb⟩; refine ⟨_, rfl, ?_⟩; refine k1_ (below_step (Z1) hb) ?_; clear HB; intro HB; (try clear hb)))
 go_ret2
 exact ⟨_, Z11, Z21, Z1⟩

end Go.Proofs.YtdipcpcbclobpaaDoor.PFnPins
