-- written by a program of this session: the kit's print, with outer functions of the session's own (wip/ext)
import Derived.Test.YtdipcpcbclobpaaDoorPFnPinsx0
namespace Go.Proofs.YtdipcpcbclobpaaDoor.PFnPins
open Go.RowKit Go.Proofs.YtdipcpcbclobpaaDoorW.PrintWords Go.Proofs.YtdipcpcbclobpaaDoorW.PrintLast Go.Proofs.YtdipcpcbclobpaaDoorW.PrintMore
attribute [local go_sem] max2_int min2_int max_two min_two max_three min_three max_four min_four   -- for this text's walks alone
set_option linter.unusedVariables false
set_option linter.unusedSimpArgs false

/-! ### laws_big: function 4 -/
def laws_big.f (l0 : List Int) (l1 : List Int) : Option (Bool) := if (l0.length : Int) > 1048576 then (some true) else (some (decide ((l1.length : Int) > (wrap64 (1048576 - (l0.length : Int))))))
set_option maxHeartbeats 8000000 in
set_option maxRecDepth 100000 in
theorem laws_big.calls (A0 : Option Addr) (c0 : Nat) (l0 : List Int) (A1 : Option Addr) (c1 : Nat) (l1 : List Int) (r : Bool) (w : World) (hr0 : Kd.C (Kd.int .u8) w A0 l0.length l0) (hc0 : l0.length ≤ c0) (hr1 : Kd.C (Kd.int .u8) w A1 l1.length l1) (hc1 : l1.length ≤ c1) (h : laws_big.f l0 l1 = some r) :
  Calls Tryd.prog 4 #[.slice A0 l0.length c0, .slice A1 l1.length c1] w fun e w' => e = .returned (.bool r) ∧ Drawn0 w w' := by
 have HR0 := Aside0.mk hr0
 have HC0 := Aside0.mk hc0
 clear hr0 hc0
 have HR1 := Aside0.mk hr1
 have HC1 := Aside0.mk hc1
 clear hr1 hc1
 have H : (if (l0.length : Int) > 1048576 then (some true) else (some (decide ((l1.length : Int) > (wrap64 (1048576 - (l0.length : Int))))))) = some r := h
 clear h
 by_cases c3 : (l0.length : Int) > 1048576
 ·rw [if_pos c3] at H
  have dE : decide (1048576 < (l0.length : Int)) = true := decide_eq_true c3
  have gX : decide (1048576 < l0.length) = true := decide_eq_true (by omega)
  clear c3
  obtain rfl := Option.some.inj H
  go_enter Tryd.func4, Tryd.ntmps4
  go_wp2
  go_ret
  exact ⟨Z14, Z43⟩
 rw [if_neg c3] at H
 have dE : decide (1048576 < (l0.length : Int)) = false := decide_eq_false c3
 have gX : decide (1048576 < l0.length) = false := decide_eq_false (by omega)
 clear c3
 obtain rfl := Option.some.inj H
 go_enter Tryd.func4, Tryd.ntmps4
 go_wp2
 go_ret
 exact ⟨Z14, Z43⟩

/-! ### spec_l1In: function 56 -/
def spec_l1In.f (a0 : Int) (a1 : Int) (a2 : Int) : Option (Bool) := if a0 ≥ a1 then (some (decide (a0 ≤ a2))) else (some false)
set_option maxHeartbeats 8000000 in
set_option maxRecDepth 100000 in
theorem spec_l1In.calls (a0 : Int) (a1 : Int) (a2 : Int) (r : Bool) (w : World) (h : spec_l1In.f a0 a1 a2 = some r) :
  Calls Tryd.prog 56 #[.int .i64 a0, .int .i64 a1, .int .i64 a2] w fun e w' => e = .returned (.bool r) ∧ Drawn0 w w' := by
 have H : (if a0 ≥ a1 then (some (decide (a0 ≤ a2))) else (some false)) = some r := h
 clear h
 by_cases c4 : a0 ≥ a1
 ·rw [if_pos c4] at H
  have cy : decide (a1 ≤ a0) = true := decide_eq_true c4
  clear c4
  obtain rfl := Option.some.inj H
  go_enter Tryd.func56, Tryd.ntmps56
  go_wp2
  go_ret
  exact ⟨Z14, Z43⟩
 rw [if_neg c4] at H
 have cy : decide (a1 ≤ a0) = false := decide_eq_false c4
 clear c4
 obtain rfl := Option.some.inj H
 go_enter Tryd.func56, Tryd.ntmps56
 go_wp2
 go_ret
 exact ⟨Z14, Z43⟩

/-! ### spec_cyShift: function 34 -/
def spec_cyShift.f (a0 : Int) : Option (Bool) := (spec_l1In.f a0 0 3).bind fun oc => (some oc)
set_option maxHeartbeats 8000000 in
set_option maxRecDepth 100000 in
theorem spec_cyShift.calls (a0 : Int) (r : Bool) (w : World) (h : spec_cyShift.f a0 = some r) :
  Calls Tryd.prog 34 #[.int .i64 a0] w fun e w' => e = .returned (.bool r) ∧ Drawn0 w w' := by
 have H : ((spec_l1In.f a0 0 3).bind fun oc => (some oc)) = some r := h
 clear h
 replace H := Option.bind_eq_some_iff.mp H
 obtain ⟨oc, cr, H⟩ := H
 replace H : (some oc) = some r := H
 have A2 := Aside0.mk cr
 clear cr
 obtain rfl := Option.some.inj H
 go_enter Tryd.func34, Tryd.ntmps34
 go_wp2_with (first | ((with_reducible refine gate_callee (f := 56) rfl ?_); refine gl_ 4 Tryd.func56 #[.int .i64 a0, .int .i64 0, .int .i64 3] ?_; (with_reducible refine (spec_l1In.calls a0 0 3 oc _ A2.out).mono ?_); rintro e w' ⟨rfl, ⟨nd, rfl⟩⟩; refine ⟨_, rfl, ?_⟩))
 go_ret
 exact ⟨Z14, Z43⟩

/-! ### spec_cyPin: function 54 -/
def spec_cyPin.f (a0_0 : Int) (a0_1 : Int) (a0_2 : Int) : Option (Bool) := (spec_l1In.f a0_0 0 19).bind fun p8 => (if p8 = true then ((spec_l1In.f a0_1 0 359).bind fun qa => (if qa = true then ((spec_cyShift.f a0_2).bind fun od => (some od)) else (some false))) else (some false))
set_option maxHeartbeats 8000000 in
set_option maxRecDepth 100000 in
theorem spec_cyPin.calls (a0_0 : Int) (a0_1 : Int) (a0_2 : Int) (r : Bool) (w : World) (h : spec_cyPin.f a0_0 a0_1 a0_2 = some r) :
  Calls Tryd.prog 54 #[.agg #[.int .i64 a0_0, .int .i64 a0_1, .int .i64 a0_2]] w fun e w' => e = .returned (.bool r) ∧ Below w.heap.size w w' := by
 have hu33 := Tryd.underlying33
 have HB := Aside0.mk (Below.refl w.heap.size w)
 have H : ((spec_l1In.f a0_0 0 19).bind fun p8 => (if p8 = true then ((spec_l1In.f a0_1 0 359).bind fun qa => (if qa = true then ((spec_cyShift.f a0_2).bind fun od => (some od)) else (some false))) else (some false))) = some r := h
 clear h
 replace H := Option.bind_eq_some_iff.mp H
 obtain ⟨p8, cr, H⟩ := H
 (try dsimp only at H)
 have A2 := Aside0.mk cr
 clear cr
 by_cases c3 : p8 = true
 ·subst c3
  rw [if_pos rfl] at H
  replace H := Option.bind_eq_some_iff.mp H
  obtain ⟨qa, ff, H⟩ := H
  (try dsimp only at H)
  have A4 := Aside0.mk ff
  clear ff
  by_cases c5 : qa = true
  ·subst c5
   rw [if_pos rfl] at H
   replace H := Option.bind_eq_some_iff.mp H
   obtain ⟨od, gW, H⟩ := H
   replace H : (some od) = some r := H
   have A6 := Aside0.mk gW
   clear gW
   obtain rfl := Option.some.inj H
   go_enter Tryd.func54, Tryd.ntmps54
   go_wp2_with (first | ((with_reducible refine gate_dst (N := 1) rfl ?_); refine bv_ 1 33 #[.int .i64 a0_0, .int .i64 a0_1, .int .i64 a0_2] ?_; intro f7 hg w7 hbox hb; refine k4_ (below_step (Z1) hb) (hbox) ((Z23 : w.heap.size ≤ f7)) ((Z23 : w.heap.size ≤ f7)) ?_; clear HB; intro HB lc tv oI; clear hb hbox hg; obtain ⟨jt, ju, jv, mx, jw, jx⟩ := bx3_ (w := w7) lc.out) | ((with_reducible refine gate_callee (f := 56) rfl ?_); refine gl_ 5 Tryd.func56 #[.int .i64 a0_0, .int .i64 0, .int .i64 19] ?_; (with_reducible refine (spec_l1In.calls a0_0 0 19 true _ A2.out).mono ?_); rintro e w' ⟨rfl, ⟨nd, rfl⟩⟩; refine ⟨_, rfl, ?_⟩) | (go_at_call 56; (with_reducible refine (spec_l1In.calls a0_1 0 359 true _ A4.out).mono ?_); rintro e w' ⟨rfl, ⟨nd, rfl⟩⟩) | (go_at_call 34; (with_reducible refine (spec_cyShift.calls a0_2 od _ A6.out).mono ?_); rintro e w' ⟨rfl, ⟨nd, rfl⟩⟩))
   go_ret
   exact ⟨Z11, Z89⟩
  replace c5 := Bool.eq_false_iff.mpr c5
  subst c5
  rw [if_neg (show ¬ (false = true) by decide)] at H
  obtain rfl := Option.some.inj H
  go_enter Tryd.func54, Tryd.ntmps54
  go_wp2_with (first | ((with_reducible refine gate_dst (N := 1) rfl ?_); refine bv_ 1 33 #[.int .i64 a0_0, .int .i64 a0_1, .int .i64 a0_2] ?_; intro f7 hg w9 hbox hb; refine k4_ (below_step (Z1) hb) (hbox) ((Z23 : w.heap.size ≤ f7)) ((Z23 : w.heap.size ≤ f7)) ?_; clear HB; intro HB lc tv oI; clear hb hbox hg; obtain ⟨i6, i7, i8, i9, ja, jb⟩ := bx3_ (w := w9) lc.out) | ((with_reducible refine gate_callee (f := 56) rfl ?_); refine gl_ 5 Tryd.func56 #[.int .i64 a0_0, .int .i64 0, .int .i64 19] ?_; (with_reducible refine (spec_l1In.calls a0_0 0 19 true _ A2.out).mono ?_); rintro e w' ⟨rfl, ⟨nd, rfl⟩⟩; refine ⟨_, rfl, ?_⟩) | (go_at_call 56; (with_reducible refine (spec_l1In.calls a0_1 0 359 false _ A4.out).mono ?_); rintro e w' ⟨rfl, ⟨nd, rfl⟩⟩))
  go_ret
  exact ⟨Z11, Z89⟩
 replace c3 := Bool.eq_false_iff.mpr c3
 subst c3
 rw [if_neg (show ¬ (false = true) by decide)] at H
 obtain rfl := Option.some.inj H
 go_enter Tryd.func54, Tryd.ntmps54
 go_wp2_with (first | ((with_reducible refine gate_dst (N := 1) rfl ?_); refine bv_ 1 33 #[.int .i64 a0_0, .int .i64 a0_1, .int .i64 a0_2] ?_; intro f7 hg eV hbox hb; refine k4_ (below_step (Z1) hb) (hbox) ((Z23 : w.heap.size ≤ f7)) ((Z23 : w.heap.size ≤ f7)) ?_; clear HB; intro HB lc tv oI; clear hb hbox hg; obtain ⟨iZ, i1, i2, i3, i4, i5⟩ := bx3_ (w := eV) lc.out) | ((with_reducible refine gate_callee (f := 56) rfl ?_); refine gl_ 5 Tryd.func56 #[.int .i64 a0_0, .int .i64 0, .int .i64 19] ?_; (with_reducible refine (spec_l1In.calls a0_0 0 19 false _ A2.out).mono ?_); rintro e w' ⟨rfl, ⟨nd, rfl⟩⟩; refine ⟨_, rfl, ?_⟩))
 go_ret
 exact ⟨Z11, Z89⟩

/-! ### spec_cyBefore: function 55 -/
def spec_cyBefore.f (a0_0 : Int) (a0_1 : Int) (a0_2 : Int) (a1_0 : Int) (a1_1 : Int) (a1_2 : Int) : Option (Bool) := if a0_2 = a1_2 then (if a0_1 = a1_1 then (some (decide (a0_0 < a1_0))) else (some (decide (a0_1 < a1_1)))) else (some (decide (a0_2 < a1_2)))
set_option maxHeartbeats 8000000 in
set_option maxRecDepth 100000 in
theorem spec_cyBefore.calls (a0_0 : Int) (a0_1 : Int) (a0_2 : Int) (a1_0 : Int) (a1_1 : Int) (a1_2 : Int) (r : Bool) (w : World) (h : spec_cyBefore.f a0_0 a0_1 a0_2 a1_0 a1_1 a1_2 = some r) :
  Calls Tryd.prog 55 #[.agg #[.int .i64 a0_0, .int .i64 a0_1, .int .i64 a0_2], .agg #[.int .i64 a1_0, .int .i64 a1_1, .int .i64 a1_2]] w fun e w' => e = .returned (.bool r) ∧ Below w.heap.size w w' := by
 have hu33 := Tryd.underlying33
 have HB := Aside0.mk (Below.refl w.heap.size w)
 have H : (if a0_2 = a1_2 then (if a0_1 = a1_1 then (some (decide (a0_0 < a1_0))) else (some (decide (a0_1 < a1_1)))) else (some (decide (a0_2 < a1_2)))) = some r := h
 clear h
 by_cases c3 : a0_2 = a1_2
 ·rw [if_pos c3] at H
  have dE : (a0_2 == a1_2) = true := beq_iff_eq.mpr c3
  have gX : (a0_2 != a1_2) = false := bne_eq_false_iff_eq.mpr c3
  clear c3
  by_cases c4 : a0_1 = a1_1
  ·rw [if_pos c4] at H
   have cy : (a0_1 == a1_1) = true := beq_iff_eq.mpr c4
   have uW : (a0_1 != a1_1) = false := bne_eq_false_iff_eq.mpr c4
   clear c4
   obtain rfl := Option.some.inj H
   go_enter Tryd.func55, Tryd.ntmps55
   go_wp2_with (first | ((with_reducible refine gate_dst (N := 2) rfl ?_); refine bv_ 2 33 #[.int .i64 a0_0, .int .i64 a0_1, .int .i64 a0_2] ?_; intro cE hg w5 hbox hb; refine k4_ (below_step (Z1) hb) (hbox) ((Z23 : w.heap.size ≤ cE)) ((Z23 : w.heap.size ≤ cE)) ?_; clear HB; intro HB cF tw mN; clear hb hbox hg) | ((with_reducible refine gate_dst (N := 3) rfl ?_); refine bv_ 3 33 #[.int .i64 a1_0, .int .i64 a1_1, .int .i64 a1_2] ?_; intro dq hg w6 hbox hb; refine k7_ (Ye_ cF) (below_step (Z44) hb) (hbox) ((Z108 : w.heap.size ≤ dq)) ((Z108 : w.heap.size ≤ dq)) ((Z93 : cE ≠ dq)) ((Z94 : dq ≠ cE)) ?_; clear cF HB; intro cF HB ld tx oK dP dQ; clear hb hbox hg; have hnb7 := dP.out; have hnc7 := dQ.out; obtain ⟨jt, ju, jv, mx, jw, jx⟩ := bx3_ (w := w6) cF.out; obtain ⟨qb, qc, qd, hfz9_0, qe, qf⟩ := bx3_ (w := w6) ld.out))
   go_ret
   exact ⟨Z11, Z86⟩
  rw [if_neg c4] at H
  have cy : (a0_1 == a1_1) = false := beq_eq_false_iff_ne.mpr c4
  have uW : (a0_1 != a1_1) = true := bne_iff_ne.mpr c4
  obtain rfl := Option.some.inj H
  go_enter Tryd.func55, Tryd.ntmps55
  go_wp2_with (first | ((with_reducible refine gate_dst (N := 2) rfl ?_); refine bv_ 2 33 #[.int .i64 a0_0, .int .i64 a0_1, .int .i64 a0_2] ?_; intro cE hg jE hbox hb; refine k4_ (below_step (Z1) hb) (hbox) ((Z23 : w.heap.size ≤ cE)) ((Z23 : w.heap.size ≤ cE)) ?_; clear HB; intro HB cF tw mN; clear hb hbox hg) | ((with_reducible refine gate_dst (N := 3) rfl ?_); refine bv_ 3 33 #[.int .i64 a1_0, .int .i64 a1_1, .int .i64 a1_2] ?_; intro dq hg eV hbox hb; refine k7_ (Ye_ cF) (below_step (Z44) hb) (hbox) ((Z108 : w.heap.size ≤ dq)) ((Z108 : w.heap.size ≤ dq)) ((Z93 : cE ≠ dq)) ((Z94 : dq ≠ cE)) ?_; clear cF HB; intro cF HB ld tx oK dP dQ; clear hb hbox hg; have hnb12 := dP.out; have hnc12 := dQ.out; obtain ⟨mV, mW, mX, mY, mZ, m0⟩ := bx3_ (w := eV) cF.out; obtain ⟨fv, fw, fx, fy, fz, fA⟩ := bx3_ (w := eV) ld.out))
  go_ret
  exact ⟨Z11, Z86⟩
 rw [if_neg c3] at H
 have dE : (a0_2 == a1_2) = false := beq_eq_false_iff_ne.mpr c3
 have gX : (a0_2 != a1_2) = true := bne_iff_ne.mpr c3
 obtain rfl := Option.some.inj H
 go_enter Tryd.func55, Tryd.ntmps55
 go_wp2_with (first | ((with_reducible refine gate_dst (N := 2) rfl ?_); refine bv_ 2 33 #[.int .i64 a0_0, .int .i64 a0_1, .int .i64 a0_2] ?_; intro cE hg l7 hbox hb; refine k4_ (below_step (Z1) hb) (hbox) ((Z23 : w.heap.size ≤ cE)) ((Z23 : w.heap.size ≤ cE)) ?_; clear HB; intro HB cF tw mN; clear hb hbox hg) | ((with_reducible refine gate_dst (N := 3) rfl ?_); refine bv_ 3 33 #[.int .i64 a1_0, .int .i64 a1_1, .int .i64 a1_2] ?_; intro dq hg oD hbox hb; refine k7_ (Ye_ cF) (below_step (Z44) hb) (hbox) ((Z108 : w.heap.size ≤ dq)) ((Z108 : w.heap.size ≤ dq)) ((Z93 : cE ≠ dq)) ((Z94 : dq ≠ cE)) ?_; clear cF HB; intro cF HB ld tx oK dP dQ; clear hb hbox hg; have hnb17 := dP.out; have hnc17 := dQ.out; obtain ⟨nu, nv, nw, nx, ny, nz⟩ := bx3_ (w := oD) cF.out; obtain ⟨gG, gH, gI, gJ, gK, gL⟩ := bx3_ (w := oD) ld.out))
 go_ret
 exact ⟨Z11, Z86⟩

end Go.Proofs.YtdipcpcbclobpaaDoor.PFnPins
