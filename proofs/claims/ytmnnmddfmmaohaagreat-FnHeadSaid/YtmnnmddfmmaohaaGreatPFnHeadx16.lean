-- written by a program of this session: the kit's print, with outer functions of the session's own (wip/ext)
import Derived.Test.YtmnnmddfmmaohaaGreatPFnHeadx0
import Derived.Test.YtmnnmddfmmaohaaGreatPFnHeadx1
namespace Go.Proofs.YtmnnmddfmmaohaaGreat.PFnHead
open Go.RowKit Go.Proofs.YtmnnmddfmmaohaaGreatW.PrintWords Go.Proofs.YtmnnmddfmmaohaaGreatW.PrintLast Go.Proofs.YtmnnmddfmmaohaaGreatW.PrintMore
attribute [local go_sem] max2_int min2_int max_two min_two max_three min_three max_four min_four   -- for this text's walks alone
set_option linter.unusedVariables false
set_option linter.unusedSimpArgs false
theorem mo16_ {p : Prop} (h : p := by repeat' first | (with_reducible first | apply ih0 | apply ih0 | exact LeO.refl _ | exact LeO.none _ | refine LeO.ite ?_ ?_ | refine LeO.bind ?_ (fun _ => ?_)) | exact LeO.none _ | refine LeO.ite ?_ ?_ | refine LeO.bind ?_ (fun _ => ?_)) : p := h

attribute [local go_sem high] eqA30
/-! ### laws_pSameStrokes: function 20 -/
def laws_pSameStrokes.l0 : Nat → List (S30) → List (S30) → Int → Int → Option (Bool)
 | 0, _, _, _, _ => none
 | k + 1, x0, x1, x12, x13 => if x13 < x12 then (if 0 ≤ x13 then (if x13 < (x0.length : Int) then (if x13 < (x1.length : Int) then (if (!(((rd_T30 x0 x13).f0) == ((rd_T30 x1 x13).f0)) || (!(((rd_T30 x0 x13).f1) == ((rd_T30 x1 x13).f1)))) = true then (some false) else (laws_pSameStrokes.l0 k x0 x1 x12 (wrap64 (x13 + 1)))) else (none)) else (none)) else (none)) else (some true)
def laws_pSameStrokes.f (k : Nat) (l0 : List (S30)) (l1 : List (S30)) : Option (Bool) := if (l0.length : Int) = (l1.length : Int) then (laws_pSameStrokes.l0 k l0 l1 (l0.length : Int) 0) else (some false)
theorem laws_pSameStrokes.mono_l : ∀ k, (∀ y0 y1 y2 y3, LeO (laws_pSameStrokes.l0 k y0 y1 y2 y3) (laws_pSameStrokes.l0 (k + 1) y0 y1 y2 y3))
 | 0 => fun _ _ _ _ r h => by simp [laws_pSameStrokes.l0] at h
 | k + 1 => by
  have ih0 := laws_pSameStrokes.mono_l k
  ·intro y0 y1 y2 y3
   unfold laws_pSameStrokes.l0
   exact mo16_
theorem laws_pSameStrokes.mono : ∀ a0 a1 k, LeO (laws_pSameStrokes.f k a0 a1) (laws_pSameStrokes.f (k + 1) a0 a1) := by
 intro a0 a1 k
 have ih0 := laws_pSameStrokes.mono_l k
 unfold laws_pSameStrokes.f
 exact mo16_
set_option maxHeartbeats 8000000 in
set_option maxRecDepth 100000 in
theorem laws_pSameStrokes.calls (k : Nat) (A0 : Option Addr) (c0 : Nat) (l0 : List (S30)) (A1 : Option Addr) (c1 : Nat) (l1 : List (S30)) (r : Bool) (w : World) (hr0 : Kd.C k30 w A0 l0.length l0) (hc0 : l0.length ≤ c0) (hr1 : Kd.C k30 w A1 l1.length l1) (hc1 : l1.length ≤ c1) (h : laws_pSameStrokes.f k l0 l1 = some r) :
  Calls Tryz.prog 20 #[.slice A0 l0.length c0, .slice A1 l1.length c1] w fun e w' => e = .returned (.bool r) ∧ Drawn0 w w' := by
 have hu30 := Tryz.underlying30
 have HR0 := Aside0.mk hr0
 have HC0 := Aside0.mk hc0
 clear hr0 hc0
 have HR1 := Aside0.mk hr1
 have HC1 := Aside0.mk hc1
 clear hr1 hc1
 have H : (if (l0.length : Int) = (l1.length : Int) then (laws_pSameStrokes.l0 k l0 l1 (l0.length : Int) 0) else (some false)) = some r := h
 clear h
 by_cases c3 : (l0.length : Int) = (l1.length : Int)
 ·rw [if_pos c3] at H
  have dj : ((l0.length : Int) == (l1.length : Int)) = true := beq_iff_eq.mpr c3
  have lC : ((l0.length : Int) != (l1.length : Int)) = false := bne_eq_false_iff_eq.mpr c3
  have tk : (l0.length == l1.length) = true := by first | simpa using c3 | (simp at c3 ⊢; omega)
  clear c3
  have H' := Aside0.mk H
  clear H
  go_enter Tryz.func20, Tryz.ntmps20
  go_wp2
  repeat (go_quiet (fail); try go_wp2)
  go_loopg [13] k (fun kq Dw w' => ∃ (aH : Int), Dw = .int .i64 aH ∧ Aside0 (laws_pSameStrokes.l0 kq l0 l1 (l0.length : Int) aH = some r) ∧ Aside0 (kq ≤ k) ∧ Drawn0 w w')
  case atStart => exact ⟨(0), (Z16), H', ⟨Nat.le_refl _⟩, Z44⟩
  case round =>
   clear H'
   (try clear c1); (try clear c2); (try clear p2); (try clear c3); (try clear dj); (try clear lC); (try clear tk)
   obtain ⟨aH, rfl, HA, HK1, ⟨m1, rfl⟩⟩ := hrel
   cases gk with
   | zero => exact absurd HA.out (by simp [laws_pSameStrokes.l0])
   | succ k1 =>
    have H := HA.out
    clear HA
    simp only [laws_pSameStrokes.l0] at H
    by_cases c4 : aH < (l0.length : Int)
    ·rw [if_pos c4] at H
     have fj : decide (aH < (l0.length : Int)) = true := decide_eq_true c4
     clear c4
     by_cases c5 : 0 ≤ aH
     ·rw [if_pos c5] at H
      have fX : decide (0 ≤ aH) = true := decide_eq_true c5
      clear c5
      by_cases c6 : aH < (l0.length : Int)
      ·rw [if_pos c6] at H
       have iq : decide (aH < (l0.length : Int)) = true := decide_eq_true c6
       clear c6
       by_cases c7 : aH < (l1.length : Int)
       ·rw [if_pos c7] at H
        have gX : decide (aH < (l1.length : Int)) = true := decide_eq_true c7
        clear c7
        by_cases c8 : (!(((rd_T30 l0 aH).f0) == ((rd_T30 l1 aH).f0)) || (!(((rd_T30 l0 aH).f1) == ((rd_T30 l1 aH).f1)))) = true
        ·rw [if_pos c8] at H
         have g7 : (!(((rd_T30 l0 aH).f0) == ((rd_T30 l1 aH).f0)) || (!(((rd_T30 l0 aH).f1) == ((rd_T30 l1 aH).f1)))) = true := c8
         clear c8
         obtain rfl := Option.some.inj H
         have p9 : 0 ≤ (aH : Int) := of_decide_eq_true (Z4)
         have qa : aH < (l0.length : Int) := of_decide_eq_true (Z4)
         obtain ⟨ad660, e660, hx660_0, hx660_1⟩ := at_T30 HR0.out aH p9 qa
         cases e660
         replace p9 := eq_true p9
         replace qa := eq_true qa
         have qb : 0 ≤ (aH : Int) := of_decide_eq_true (Z4)
         have qc : aH < (l1.length : Int) := of_decide_eq_true (Z4)
         obtain ⟨ad661, e661, hx661_0, hx661_1⟩ := at_T30 HR1.out aH qb qc
         cases e661
         replace qb := eq_true qb
         replace qc := eq_true qc
         go_wp2
         repeat (go_quiet (fail); try go_wp2)
         go_ret
         exact ⟨Z16, Z44⟩
        rw [if_neg c8] at H
        have g7 : (!(((rd_T30 l0 aH).f0) == ((rd_T30 l1 aH).f0)) || (!(((rd_T30 l0 aH).f1) == ((rd_T30 l1 aH).f1)))) = false := by simpa using c8
        clear c8
        have H' := Aside0.mk H
        clear H
        have p9 : 0 ≤ (aH : Int) := of_decide_eq_true (Z4)
        have qa : aH < (l0.length : Int) := of_decide_eq_true (Z4)
        obtain ⟨ad660, e660, hx660_0, hx660_1⟩ := at_T30 HR0.out aH p9 qa
        cases e660
        replace p9 := eq_true p9
        replace qa := eq_true qa
        have qb : 0 ≤ (aH : Int) := of_decide_eq_true (Z4)
        have qc : aH < (l1.length : Int) := of_decide_eq_true (Z4)
        obtain ⟨ad661, e661, hx661_0, hx661_1⟩ := at_T30 HR1.out aH qb qc
        cases e661
        replace qb := eq_true qb
        replace qc := eq_true qc
        go_wp2
        repeat (go_quiet (fail); try go_wp2)
        go_roundg k1
        case measure => have := HK1.out; omega
        case rel => exact ⟨(wrap64 (aH + 1)), (Z16), H', ⟨Z76 HK1⟩, Z44⟩
       rw [if_neg c7] at H
       exact absurd H (by simp)
      rw [if_neg c6] at H
      exact absurd H (by simp)
     rw [if_neg c5] at H
     exact absurd H (by simp)
    rw [if_neg c4] at H
    have fj : decide (aH < (l0.length : Int)) = false := decide_eq_false c4
    clear c4
    obtain rfl := Option.some.inj H
    go_wp2
    repeat (go_quiet (fail); try go_wp2)
    go_ret
    exact ⟨Z16, Z44⟩
 rw [if_neg c3] at H
 have dj : ((l0.length : Int) == (l1.length : Int)) = false := beq_eq_false_iff_ne.mpr c3
 have lC : ((l0.length : Int) != (l1.length : Int)) = true := bne_iff_ne.mpr c3
 have tk : (l0.length == l1.length) = false := by first | simpa using c3 | (simp at c3 ⊢; omega)
 obtain rfl := Option.some.inj H
 go_enter Tryz.func20, Tryz.ntmps20
 go_wp2
 repeat (go_quiet (fail); try go_wp2)
 go_ret
 exact ⟨Z16, Z44⟩

end Go.Proofs.YtmnnmddfmmaohaaGreat.PFnHead
