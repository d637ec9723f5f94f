-- written by a program of this session: the kit's print, with outer functions of the session's own (wip/ext)
import Derived.Test.YtmnnmddfmmaohaaGreatPFnHeadx0
import Derived.Test.YtmnnmddfmmaohaaGreatPFnHeadx10
namespace Go.Proofs.YtmnnmddfmmaohaaGreat.PFnHead
open Go.RowKit Go.Proofs.YtmnnmddfmmaohaaGreatW.PrintWords Go.Proofs.YtmnnmddfmmaohaaGreatW.PrintLast Go.Proofs.YtmnnmddfmmaohaaGreatW.PrintMore
attribute [local go_sem] max2_int min2_int max_two min_two max_three min_three max_four min_four   -- for this text's walks alone
set_option linter.unusedVariables false
set_option linter.unusedSimpArgs false
theorem mo15_ {p : Prop} (h : p := by repeat' first | (with_reducible first | apply ih0 | apply ih0 | apply ih1 | apply ih1 | apply ih2 | apply ih2 | apply ih3 | apply ih3 | apply spec_puGood.mono | apply spec_puGood.mono | exact LeO.refl _ | exact LeO.none _ | refine LeO.ite ?_ ?_ | refine LeO.bind ?_ (fun _ => ?_)) | exact LeO.none _ | refine LeO.ite ?_ ?_ | refine LeO.bind ?_ (fun _ => ?_)) : p := h

/-! ### spec_RowOrder: function 19 -/
mutual
def spec_RowOrder.l0 : Nat → List (S30) → List (S30) → Bool → Int → Option ((List (S30)) × Bool)
 | 0, _, _, _, _ => none
 | k + 1, x0, x4, x5, x6 => if x6 < 2000 then (spec_RowOrder.l1 k x0 x4 x5 x6 ([] : List (S30)) x0 (x0.length : Int) 0) else (some (x4, true))
def spec_RowOrder.l1 : Nat → List (S30) → List (S30) → Bool → Int → List (S30) → List (S30) → Int → Int → Option ((List (S30)) × Bool)
 | 0, _, _, _, _, _, _, _, _ => none
 | k + 1, x0, x4, x5, x6, x7, x19, x20, x21 => if x21 < x20 then (if 0 ≤ x21 then (if x21 < (x19.length : Int) then (if ((rd_T30 x19 x21).f1) = x6 then (spec_RowOrder.l2 k x0 x4 x5 x6 x7 (x7.length : Int) x19 x20 x21 ((rd_T30 x19 x21).f0) ((rd_T30 x19 x21).f1)) else (spec_RowOrder.l1 k x0 x4 x5 x6 x7 x19 x20 (wrap64 (x21 + 1)))) else (none)) else (none)) else (spec_RowOrder.l3 k x0 x4 x5 x6 x7 (x7.length : Int) 0)
def spec_RowOrder.l2 : Nat → List (S30) → List (S30) → Bool → Int → List (S30) → Int → List (S30) → Int → Int → Int → Int → Option ((List (S30)) × Bool)
 | 0, _, _, _, _, _, _, _, _, _, _, _ => none
 | k + 1, x0, x4, x5, x6, x7, x10, x19, x20, x21, jf, mG => if x10 > 0 then (if 0 ≤ (wrap64 (x10 - 1)) then (if (wrap64 (x10 - 1)) < (x7.length : Int) then (if ((rd_T30 x7 (wrap64 (x10 - 1))).f0) > jf then (spec_RowOrder.l2 k x0 x4 x5 x6 x7 (wrap64 (x10 - 1)) x19 x20 x21 jf mG) else ((some (([] : List (S30)) : List (S30))).bind fun gL => (if 0 ≤ x10 then (if x10 ≤ (x7.length : Int) then ((some (x7.take (x10 : Int).toNat : List (S30))).bind fun da => (if gL.length + da.length < 8796093022208 then ((some (gL ++ da : List (S30))).bind fun eX => ((some (([(⟨jf, mG⟩ : S30)] : List (S30)) : List (S30))).bind fun cL => (if eX.length + cL.length < 8796093022208 then ((some (eX ++ cL : List (S30))).bind fun dC => ((some (x7.drop (x10 : Int).toNat : List (S30))).bind fun bY => (if dC.length + bY.length < 8796093022208 then (spec_RowOrder.l1 k x0 x4 x5 x6 (dC ++ bY) x19 x20 (wrap64 (x21 + 1))) else (none)))) else (none)))) else (none))) else (none)) else (none)))) else (none)) else (none)) else ((some (([] : List (S30)) : List (S30))).bind fun iY => (if 0 ≤ x10 then (if x10 ≤ (x7.length : Int) then ((some (x7.take (x10 : Int).toNat : List (S30))).bind fun dr => (if iY.length + dr.length < 8796093022208 then ((some (iY ++ dr : List (S30))).bind fun fQ => ((some (([(⟨jf, mG⟩ : S30)] : List (S30)) : List (S30))).bind fun cX => (if fQ.length + cX.length < 8796093022208 then ((some (fQ ++ cX : List (S30))).bind fun ex => ((some (x7.drop (x10 : Int).toNat : List (S30))).bind fun ce => (if ex.length + ce.length < 8796093022208 then (spec_RowOrder.l1 k x0 x4 x5 x6 (ex ++ ce) x19 x20 (wrap64 (x21 + 1))) else (none)))) else (none)))) else (none))) else (none)) else (none)))
def spec_RowOrder.l3 : Nat → List (S30) → List (S30) → Bool → Int → List (S30) → Int → Int → Option ((List (S30)) × Bool)
 | 0, _, _, _, _, _, _, _ => none
 | k + 1, x0, x4, x5, x6, x7, x60, x61 => if x61 < x60 then (if x5 = true then (if 0 ≤ (wrap64 ((wrap64 ((x7.length : Int) - 1)) - x61)) then (if (wrap64 ((wrap64 ((x7.length : Int) - 1)) - x61)) < (x7.length : Int) then ((some (([(⟨(rd_T30 x7 (wrap64 ((wrap64 ((x7.length : Int) - 1)) - x61))).f0, (rd_T30 x7 (wrap64 ((wrap64 ((x7.length : Int) - 1)) - x61))).f1⟩ : S30)] : List (S30)) : List (S30))).bind fun iv => (if x4.length + iv.length < 8796093022208 then (spec_RowOrder.l3 k x0 (x4 ++ iv) x5 x6 x7 x60 (wrap64 (x61 + 1))) else (none))) else (none)) else (none)) else (if 0 ≤ x61 then (if x61 < (x7.length : Int) then ((some (([(⟨(rd_T30 x7 x61).f0, (rd_T30 x7 x61).f1⟩ : S30)] : List (S30)) : List (S30))).bind fun lF => (if x4.length + lF.length < 8796093022208 then (spec_RowOrder.l3 k x0 (x4 ++ lF) x5 x6 x7 x60 (wrap64 (x61 + 1))) else (none))) else (none)) else (none))) else (if (x7.length : Int) > 0 then (spec_RowOrder.l0 k x0 x4 (!x5) (wrap64 (x6 + 1))) else (spec_RowOrder.l0 k x0 x4 x5 (wrap64 (x6 + 1))))
end
def spec_RowOrder.f (k : Nat) (l0 : List (S30)) : Option ((List (S30)) × Bool) := (spec_puGood.f k l0).bind fun tA => (if tA = true then (spec_RowOrder.l0 k l0 ([] : List (S30)) false 0) else (some (([] : List (S30)), false)))
theorem spec_RowOrder.mono_l : ∀ k, (∀ y0 y1 y2 y3, LeO (spec_RowOrder.l0 k y0 y1 y2 y3) (spec_RowOrder.l0 (k + 1) y0 y1 y2 y3)) ∧ (∀ y0 y1 y2 y3 y4 y5 y6 y7, LeO (spec_RowOrder.l1 k y0 y1 y2 y3 y4 y5 y6 y7) (spec_RowOrder.l1 (k + 1) y0 y1 y2 y3 y4 y5 y6 y7)) ∧ (∀ y0 y1 y2 y3 y4 y5 y6 y7 y8 y9 tr, LeO (spec_RowOrder.l2 k y0 y1 y2 y3 y4 y5 y6 y7 y8 y9 tr) (spec_RowOrder.l2 (k + 1) y0 y1 y2 y3 y4 y5 y6 y7 y8 y9 tr)) ∧ (∀ y0 y1 y2 y3 y4 y5 y6, LeO (spec_RowOrder.l3 k y0 y1 y2 y3 y4 y5 y6) (spec_RowOrder.l3 (k + 1) y0 y1 y2 y3 y4 y5 y6))
 | 0 => ⟨fun _ _ _ _ r h => by simp [spec_RowOrder.l0] at h, fun _ _ _ _ _ _ _ _ r h => by simp [spec_RowOrder.l1] at h, fun _ _ _ _ _ _ _ _ _ _ _ r h => by simp [spec_RowOrder.l2] at h, fun _ _ _ _ _ _ _ r h => by simp [spec_RowOrder.l3] at h⟩
 | k + 1 => by
  obtain ⟨ih0, ih1, ih2, ih3⟩ := spec_RowOrder.mono_l k
  refine ⟨?_, ?_, ?_, ?_⟩
  ·intro y0 y1 y2 y3
   unfold spec_RowOrder.l0
   exact mo15_
  ·intro y0 y1 y2 y3 y4 y5 y6 y7
   unfold spec_RowOrder.l1
   exact mo15_
  ·intro y0 y1 y2 y3 y4 y5 y6 y7 y8 y9 tr
   unfold spec_RowOrder.l2
   exact mo15_
  intro y0 y1 y2 y3 y4 y5 y6
  unfold spec_RowOrder.l3
  exact mo15_
theorem spec_RowOrder.mono : ∀ a0 k, LeO (spec_RowOrder.f k a0) (spec_RowOrder.f (k + 1) a0) := by
 intro a0 k
 obtain ⟨ih0, ih1, ih2, ih3⟩ := spec_RowOrder.mono_l k
 unfold spec_RowOrder.f
 exact mo15_
def spec_RowOrder.T14 : Bool × List (List Nat × List Nat) := (true, [([], []), ([0], [0]), ([1], [1]), ([2], [2]), ([2], [2]), ([4, 2], [2, 4]), ([3, 5, 2], [2, 3, 5]), ([6, 2], [2, 6]), ([7, 2], [2, 7]), ([2], [2]), ([9, 2], [2, 9]), ([8, 10, 2], [2, 8, 10]), ([2, 11], [2, 11])])
def spec_RowOrder.B14 : List Nat := [0, 1, 3, 7, 7, 23, 63, 127, 255, 7, 519, 2047, 4095]
theorem spec_RowOrder.tab14 : rtab .any (opsOf Tryz.f19 14) = spec_RowOrder.T14 := by kernel_rfl
theorem spec_RowOrder.bits14 : waitsOk spec_RowOrder.T14.2 spec_RowOrder.B14 = true := by kernel_rfl
def spec_RowOrder.T16 : Bool × List (List Nat × List Nat) := (true, [([], []), ([], []), ([], []), ([1, 2], [1, 2]), ([0, 3], [0, 3]), ([], []), ([5], [5]), ([4, 6, 4], [4, 6]), ([], []), ([], []), ([8, 9], [8, 9]), ([7, 10, 7], [7, 10]), ([11, 11, 0, 1, 2, 3, 4, 5, 6, 7, 8, 9, 10, 11], [1, 8, 11])])
def spec_RowOrder.B16 : List Nat := [0, 0, 0, 6, 15, 0, 32, 127, 0, 0, 768, 2047, 4095]
theorem spec_RowOrder.tab16 : rtab .any (opsOf Tryz.f19 16) = spec_RowOrder.T16 := by kernel_rfl
theorem spec_RowOrder.bits16 : waitsOk spec_RowOrder.T16.2 spec_RowOrder.B16 = true := by kernel_rfl
set_option maxHeartbeats 8000000 in
set_option maxRecDepth 100000 in
theorem spec_RowOrder.calls (k : Nat) (A0 : Option Addr) (c0 : Nat) (l0 : List (S30)) (r1 : List (S30)) (r2 : Bool) (w : World) (hr0 : Kd.C k30 w A0 l0.length l0) (hc0 : l0.length ≤ c0) (h : spec_RowOrder.f k l0 = some (r1, r2)) :
  Calls Tryz.prog 19 #[.slice A0 l0.length c0] w fun e w' => ∃ v0_ : Value, e = .returned (.tuple #[v0_, .bool r2]) ∧ Kd.R k30 30 w' w.heap.size (fun _ => True) v0_ r1 ∧ Below w.heap.size w w' := by
 have hu30 := Tryz.underlying30
 have HR0 := Aside0.mk hr0
 have HC0 := Aside0.mk hc0
 clear hr0 hc0
 have HB := Aside0.mk (Below.refl w.heap.size w)
 have H : ((spec_puGood.f k l0).bind fun tA => (if tA = true then (spec_RowOrder.l0 k l0 ([] : List (S30)) false 0) else (some (([] : List (S30)), false)))) = some (r1, r2) := h
 clear h
 replace H := Option.bind_eq_some_iff.mp H
 obtain ⟨tA, cK, H⟩ := H
 (try dsimp only at H)
 have A2 := Aside0.mk cK
 clear cK
 by_cases c3 : tA = true
 ·subst c3
  rw [if_pos rfl] at H
  have H' := Aside0.mk H
  clear H
  go_enter Tryz.func19, Tryz.ntmps19
  go_wp2_with ((with_reducible refine gate_callee (f := 28) rfl ?_); refine gl_ 13 Tryz.func28 #[.slice A0 l0.length c0] ?_; (with_reducible refine (spec_puGood.calls k _ _ l0 true _ ?_ ?_ A2.out).mono ?_); exact (Z18 HR0); exact HC0.out; rintro e w4 ⟨rfl, hb⟩; refine ⟨_, rfl, ?_⟩; refine k1_ (below_step (Z2) hb) ?_; clear HB; intro HB; (try clear hb))
  (try simp only [Act.put, List.setIfInBounds_toArray, List.set_cons_zero, List.set_cons_succ])
  go_loopg [4, 5, 6] k (fun kq v4 v5 v6 w' => ∃ (aw : List (S30)) (cq : Bool) (aQ : Int), v5 = .bool cq ∧ v6 = .int .i64 aQ ∧ Aside0 (spec_RowOrder.l0 kq l0 aw cq aQ = some (r1, r2)) ∧ Aside0 (kq ≤ k) ∧ Aside0 (Kd.R k30 30 w' w.heap.size (fun _ => True) v4 aw) ∧ Aside0 (Below w.heap.size w w'))
  case atStart => exact ⟨(([] : List (S30))), (false), (0), (Z16), (Z16), H', ⟨Nat.le_refl _⟩, ⟨Z37⟩, ⟨Z2⟩⟩
  case round =>
   clear H'
   (try clear c1); (try clear c2); (try clear p2); (try clear c3)
   obtain ⟨aw, cq, aQ, rfl, rfl, HA, HK1, aj, HB⟩ := hrel
   cases gk with
   | zero => exact absurd HA.out (by simp [spec_RowOrder.l0])
   | succ k1 =>
    have H := HA.out
    clear HA
    simp only [spec_RowOrder.l0] at H
    by_cases c5 : aQ < 2000
    ·rw [if_pos c5] at H
     have fX : decide (aQ < 2000) = true := decide_eq_true c5
     clear c5
     have H' := Aside0.mk H
     clear H
     go_wp2
     go_loopg [7, 21] k1 (fun kq v7 AW w' => ∃ (ai : List (S30)) (ah : Int), AW = .int .i64 ah ∧ Aside0 (spec_RowOrder.l1 kq l0 aw cq aQ ai l0 (l0.length : Int) ah = some (r1, r2)) ∧ Aside0 (kq ≤ k1) ∧ Aside0 (Kd.R k30 30 w' w.heap.size (fun k_ => some k_ ≠ (v7 : Value).ownBlock) u4 aw) ∧ Aside0 (Kd.R k30 30 w' w.heap.size (fun k_ => some k_ ≠ (u4 : Value).ownBlock) v7 ai) ∧ Aside0 (Below w.heap.size w w'))
     case atStart => exact ⟨(([] : List (S30))), (0), (Z16), H', ⟨Nat.le_refl _⟩, ⟨Z164 aj⟩, ⟨Z37⟩, ⟨Z2⟩⟩
     case round =>
      clear H'
      (try clear c5); (try clear fX)
      obtain ⟨ai, ah, rfl, HA, HK2, aj, ar, HB⟩ := hrel
      cases gk with
      | zero => exact absurd HA.out (by simp [spec_RowOrder.l1])
      | succ k2 =>
       have H := HA.out
       clear HA
       simp only [spec_RowOrder.l1] at H
       by_cases c6 : ah < (l0.length : Int)
       ·rw [if_pos c6] at H
        have iq : decide (ah < (l0.length : Int)) = true := decide_eq_true c6
        clear c6
        by_cases c7 : 0 ≤ ah
        ·rw [if_pos c7] at H
         have gX : decide (0 ≤ ah) = true := decide_eq_true c7
         clear c7
         by_cases c8 : ah < (l0.length : Int)
         ·rw [if_pos c8] at H
          have g7 : decide (ah < (l0.length : Int)) = true := decide_eq_true c8
          clear c8
          by_cases c9 : ((rd_T30 l0 ah).f1) = aQ
          ·rw [if_pos c9] at H
           have iX : (((rd_T30 l0 ah).f1) == aQ) = true := beq_iff_eq.mpr c9
           have pX : (((rd_T30 l0 ah).f1) != aQ) = false := bne_eq_false_iff_eq.mpr c9
           clear c9
           have H' := Aside0.mk H
           clear H
           have mH : 0 ≤ (ah : Int) := of_decide_eq_true (Z4)
           have mI : ah < (l0.length : Int) := of_decide_eq_true (Z4)
           obtain ⟨ad597, e597, ee, ef⟩ := at_T30 HR0.out ah mH mI
           cases e597
           replace ee := (HB.out.cell (World.block_lt_of_cell? w _ ee)).trans ee
           replace ef := (HB.out.cell (World.block_lt_of_cell? w _ ef)).trans ef
           replace mH := eq_true mH
           replace mI := eq_true mI
           go_wp2_with ((with_reducible refine gate_dst (N := 9) rfl ?_); refine bv_ 9 30 #[.int .i64 0, .int .i64 0] ?_; intro aq hg ng hbox hb; refine k6_ (Kd.R_below (Kd.R_elderB (Z1 aj) aq (Nat.le_of_eq hg.symm)) hb) (Kd.R_below (Kd.R_elderB (Z1 ar) aq (Nat.le_of_eq hg.symm)) hb) (below_step (Z2) hb) (hbox) ((Z38 : w.heap.size ≤ aq)) ((Z38 : w.heap.size ≤ aq)) ?_; clear aj ar HB; intro aj ar HB ao GW598 wH; clear hb hbox hg; obtain ⟨i9, mi, ja, mj⟩ := bx2_ (w := ng) ao.out; obtain ⟨cj, ba, pY⟩ := Kd.R_slice ar.out; subst pY)
           (try simp only [Act.put, List.setIfInBounds_toArray, List.set_cons_zero, List.set_cons_succ])
           go_loopg [10] k2 (fun kq vK w' => ∃ (ax : Int), vK = .int .i64 ax ∧ Aside0 (spec_RowOrder.l2 kq l0 aw cq aQ ai ax l0 (l0.length : Int) ah ((rd_T30 l0 ah).f0) ((rd_T30 l0 ah).f1) = some (r1, r2)) ∧ Aside0 (kq ≤ k2) ∧ Aside0 (Kd.R k30 30 w' w.heap.size (fun k_ => some k_ ≠ ((.slice cj ai.length ba) : Value).ownBlock ∧ k_ ≠ aq) u4 aw) ∧ Aside0 (Kd.R k30 30 w' w.heap.size (fun k_ => some k_ ≠ (u4 : Value).ownBlock ∧ k_ ≠ aq) (.slice cj ai.length ba) ai) ∧ Aside0 (w'.heap[aq]? = some (.cells #[.int .i64 ((rd_T30 l0 ah).f0), .int .i64 ((rd_T30 l0 ah).f1)] 30 (0, 0))) ∧ Aside0 (Below w.heap.size w w'))
           case atStart => exact ⟨((ai.length : Int)), (Z16), H', ⟨Nat.le_refl _⟩, ⟨Z105 aj⟩, ⟨Z105 ar⟩, ⟨Z63 ao⟩, ⟨Z14⟩⟩
           case round =>
            clear H'
            (try clear p5); (try clear q5); (try clear hx5); (try clear c6); (try clear iq); (try clear c7); (try clear gX); (try clear c8); (try clear g7); (try clear c9); (try clear iX); (try clear pX); (try clear i9); (try clear mi); (try clear ja); (try clear mj); (try clear ee); (try clear ef); (try clear mH); (try clear mI)
            obtain ⟨ax, rfl, HA, HK3, aj, ar, ao, HB⟩ := hrel
            cases gk with
            | zero => exact absurd HA.out (by simp [spec_RowOrder.l2])
            | succ k3 =>
             have H := HA.out
             clear HA
             simp only [spec_RowOrder.l2] at H
             by_cases c13 : ax > 0
             ·rw [if_pos c13] at H
              have fZ : decide (0 < ax) = true := decide_eq_true c13
              clear c13
              obtain ⟨dd, hji14⟩ : ∃ j_ : Int, (wrap64 (ax - 1)) = j_ := ⟨_, rfl⟩
              replace H : (if 0 ≤ (dd) then (if (dd) < (ai.length : Int) then (if ((rd_T30 ai (dd)).f0) > ((rd_T30 l0 ah).f0) then (spec_RowOrder.l2 k3 l0 aw cq aQ ai dd l0 (l0.length : Int) ah ((rd_T30 l0 ah).f0) ((rd_T30 l0 ah).f1)) else ((some (([] : List (S30)) : List (S30))).bind fun gL => (if 0 ≤ ax then (if ax ≤ (ai.length : Int) then ((some (ai.take (ax : Int).toNat : List (S30))).bind fun da => (if gL.length + da.length < 8796093022208 then ((some (gL ++ da : List (S30))).bind fun eX => ((some (([(⟨((rd_T30 l0 ah).f0), ((rd_T30 l0 ah).f1)⟩ : S30)] : List (S30)) : List (S30))).bind fun cL => (if eX.length + cL.length < 8796093022208 then ((some (eX ++ cL : List (S30))).bind fun dC => ((some (ai.drop (ax : Int).toNat : List (S30))).bind fun bY => (if dC.length + bY.length < 8796093022208 then (spec_RowOrder.l1 k3 l0 aw cq aQ (dC ++ bY) l0 (l0.length : Int) (wrap64 (ah + 1))) else (none)))) else (none)))) else (none))) else (none)) else (none)))) else (none)) else (none)) = some (r1, r2) := by first | (rw [hji14] at H; exact H) | (simp only [hji14] at H ⊢; exact H)
              have hji14w : (IntKind.i64.wrap (ax - 1)) = dd := (i64_w _).trans hji14
              by_cases c15 : 0 ≤ (dd)
              ·rw [if_pos c15] at H
               have fO : decide (0 ≤ (dd)) = true := decide_eq_true c15
               clear c15
               by_cases c16 : (dd) < (ai.length : Int)
               ·rw [if_pos c16] at H
                have ej : decide ((dd) < (ai.length : Int)) = true := decide_eq_true c16
                clear c16
                by_cases c17 : ((rd_T30 ai (dd)).f0) > ((rd_T30 l0 ah).f0)
                ·rw [if_pos c17] at H
                 have lM : decide (((rd_T30 l0 ah).f0) < ((rd_T30 ai (dd)).f0)) = true := decide_eq_true c17
                 clear c17
                 have H' := Aside0.mk H
                 clear H
                 try go_wp2
                 refine k4_ (Kd.R_drew aj.out) (Kd.R_drew ar.out) (blk_drew ao.out) (below_drew1 HB.out) ?_
                 clear aj ar ao HB
                 intro aj ar ao HB
                 have pZ : 0 ≤ ((dd) : Int) := of_decide_eq_true (Z4)
                 have p0 : (dd) < (ai.length : Int) := of_decide_eq_true (Z4)
                 obtain ⟨br, e599, g8, g9⟩ := at_T30 (Kd.R_reads' ar.out).2.2 (dd) pZ p0
                 cases e599
                 replace pZ := eq_true pZ
                 replace p0 := eq_true p0
                 refine start_ (n := 13) (S := fun w' => w'.cell? ⟨aq, 0, none⟩ = some (.int .i64 ((rd_T30 l0 ah).f0)) ∧ w'.cell? ⟨aq, 1, none⟩ = some (.int .i64 ((rd_T30 l0 ah).f1)) ∧ w'.cell? (br.add (((dd)).toNat * 2)) = some (.int .i64 ((rd_T30 ai (dd)).f0)) ∧ w'.cell? ⟨(br.add (((dd)).toNat * 2)).block, (br.add (((dd)).toNat * 2)).off + 1, none⟩ = some (.int .i64 ((rd_T30 ai (dd)).f1))) (ds := []) (M_ 0 13) (by kernel_rfl) rfl rfl ⟨(blk_cell ao.out 0).trans rfl, (blk_cell ao.out 1).trans rfl, g8, g9⟩ (fun hHeld => ?_); refine with_tabW spec_RowOrder.tab14 spec_RowOrder.bits14 (fun HT_ HW_ => ?_)
                 generalize wr.drew = Da at aj ar ao HB g8 g9 hHeld ⊢
                 refine pu_ 0 31 (M_ 1 12) ?_
                 refine pu_ 1 32 (M_ 2 11) ?_
                 refine pu_ 2 33 (M_ 3 10) ?_
                 refine pu_ 3 34 (M_ 4 9) ?_
                 refine pu_ 4 35 (M_ 5 8) ?_
                 refine pu_ 5 36 (M_ 6 7) ?_
                 refine pu_ 6 37 (M_ 7 6) ?_
                 refine pu_ 7 38 (M_ 8 5) ?_
                 refine pu_ 9 40 (N_ 13 767) ?_
                 refine tk4_ 8 39 (M_ 10 3) hHeld ?_
                 refine tk4_ 10 41 (M_ 11 2) hHeld ?_
                 refine pu_ 11 42 (M_ 12 1) ?_
                 refine pu_ 12 43 (M_ 13 0) ?_
                 refine done_ (done_of HT_.out (by kernel_rfl)) ?_
                 try go_wp2
                 go_roundg k3
                 case measure => have := HK1.out; have := HK2.out; have := HK3.out; omega
                 case rel => exact ⟨(dd), (by first | rfl | (simp; done) | (simp only [← hji14] <;> (first | rfl | simp)) | (simp [*]; done)), H', ⟨Z81⟩, ⟨Z1 aj⟩, ⟨Z1 ar⟩, ⟨Z6 ao⟩, ⟨Z14⟩⟩
                rw [if_neg c17] at H
                have lM : decide (((rd_T30 l0 ah).f0) < ((rd_T30 ai (dd)).f0)) = false := decide_eq_false c17
                clear c17
                obtain ⟨gL, nL⟩ : ∃ y_ : List (S30), y_ = (([] : List (S30))) := ⟨_, rfl⟩
                replace H : (if 0 ≤ ax then (if ax ≤ (ai.length : Int) then ((some (ai.take (ax : Int).toNat : List (S30))).bind fun da => (if gL.length + da.length < 8796093022208 then ((some (gL ++ da : List (S30))).bind fun eX => ((some (([(⟨((rd_T30 l0 ah).f0), ((rd_T30 l0 ah).f1)⟩ : S30)] : List (S30)) : List (S30))).bind fun cL => (if eX.length + cL.length < 8796093022208 then ((some (eX ++ cL : List (S30))).bind fun dC => ((some (ai.drop (ax : Int).toNat : List (S30))).bind fun bY => (if dC.length + bY.length < 8796093022208 then (spec_RowOrder.l1 k3 l0 aw cq aQ (dC ++ bY) l0 (l0.length : Int) (wrap64 (ah + 1))) else (none)))) else (none)))) else (none))) else (none)) else (none)) = some (r1, r2) := by first | (rw [nL]; with_reducible exact H) | (have H2_ := (Option.bind_some _ _).symm.trans H; rw [nL]; with_reducible exact H2_) | (have H2_ := (Option.bind_some _ _).symm.trans H; with_reducible exact H2_) | with_reducible exact H | (rw [nL]; exact H) | exact H
                have qZ := Aside0.mk nL
                clear nL
                by_cases c19 : 0 ≤ ax
                ·rw [if_pos c19] at H
                 have jA := eq_true c19
                 have c19b1 : decide (0 ≤ ax) = true := decide_eq_true c19
                 clear c19
                 by_cases c20 : ax ≤ (ai.length : Int)
                 ·rw [if_pos c20] at H
                  have ea := eq_true c20
                  have xe : decide (ax ≤ (ai.length : Int)) = true := decide_eq_true c20
                  clear c20
                  obtain ⟨da, nM⟩ : ∃ y_ : List (S30), y_ = (ai.take (ax : Int).toNat) := ⟨_, rfl⟩
                  replace H : (if gL.length + da.length < 8796093022208 then ((some (gL ++ da : List (S30))).bind fun eX => ((some (([(⟨((rd_T30 l0 ah).f0), ((rd_T30 l0 ah).f1)⟩ : S30)] : List (S30)) : List (S30))).bind fun cL => (if eX.length + cL.length < 8796093022208 then ((some (eX ++ cL : List (S30))).bind fun dC => ((some (ai.drop (ax : Int).toNat : List (S30))).bind fun bY => (if dC.length + bY.length < 8796093022208 then (spec_RowOrder.l1 k3 l0 aw cq aQ (dC ++ bY) l0 (l0.length : Int) (wrap64 (ah + 1))) else (none)))) else (none)))) else (none)) = some (r1, r2) := by first | (rw [nM]; with_reducible exact H) | (have H2_ := (Option.bind_some _ _).symm.trans H; rw [nM]; with_reducible exact H2_) | (have H2_ := (Option.bind_some _ _).symm.trans H; with_reducible exact H2_) | with_reducible exact H | (rw [nM]; exact H) | exact H
                  have iK := Aside0.mk nM
                  clear nM
                  by_cases c21 : gL.length + da.length < 8796093022208
                  ·rw [if_pos c21] at H
                   have nN := Aside0.mk c21
                   clear c21
                   obtain ⟨eX, nO⟩ : ∃ y_ : List (S30), y_ = (gL ++ da) := ⟨_, rfl⟩
                   replace H : ((some (([(⟨((rd_T30 l0 ah).f0), ((rd_T30 l0 ah).f1)⟩ : S30)] : List (S30)) : List (S30))).bind fun cL => (if eX.length + cL.length < 8796093022208 then ((some (eX ++ cL : List (S30))).bind fun dC => ((some (ai.drop (ax : Int).toNat : List (S30))).bind fun bY => (if dC.length + bY.length < 8796093022208 then (spec_RowOrder.l1 k3 l0 aw cq aQ (dC ++ bY) l0 (l0.length : Int) (wrap64 (ah + 1))) else (none)))) else (none))) = some (r1, r2) := by first | (rw [nO]; with_reducible exact H) | (have H2_ := (Option.bind_some _ _).symm.trans H; rw [nO]; with_reducible exact H2_) | (have H2_ := (Option.bind_some _ _).symm.trans H; with_reducible exact H2_) | with_reducible exact H | (rw [nO]; exact H) | exact H
                   have tB := Aside0.mk nO
                   clear nO
                   obtain ⟨cL, nP⟩ : ∃ y_ : List (S30), y_ = (([(⟨((rd_T30 l0 ah).f0), ((rd_T30 l0 ah).f1)⟩ : S30)] : List (S30))) := ⟨_, rfl⟩
                   replace H : (if eX.length + cL.length < 8796093022208 then ((some (eX ++ cL : List (S30))).bind fun dC => ((some (ai.drop (ax : Int).toNat : List (S30))).bind fun bY => (if dC.length + bY.length < 8796093022208 then (spec_RowOrder.l1 k3 l0 aw cq aQ (dC ++ bY) l0 (l0.length : Int) (wrap64 (ah + 1))) else (none)))) else (none)) = some (r1, r2) := by first | (rw [nP]; with_reducible exact H) | (have H2_ := (Option.bind_some _ _).symm.trans H; rw [nP]; with_reducible exact H2_) | (have H2_ := (Option.bind_some _ _).symm.trans H; with_reducible exact H2_) | with_reducible exact H | (rw [nP]; exact H) | exact H
                   have lS := Aside0.mk nP
                   clear nP
                   by_cases c22 : eX.length + cL.length < 8796093022208
                   ·rw [if_pos c22] at H
                    have tC := Aside0.mk c22
                    clear c22
                    obtain ⟨dC, nQ⟩ : ∃ y_ : List (S30), y_ = (eX ++ cL) := ⟨_, rfl⟩
                    replace H : ((some (ai.drop (ax : Int).toNat : List (S30))).bind fun bY => (if dC.length + bY.length < 8796093022208 then (spec_RowOrder.l1 k3 l0 aw cq aQ (dC ++ bY) l0 (l0.length : Int) (wrap64 (ah + 1))) else (none))) = some (r1, r2) := by first | (rw [nQ]; with_reducible exact H) | (have H2_ := (Option.bind_some _ _).symm.trans H; rw [nQ]; with_reducible exact H2_) | (have H2_ := (Option.bind_some _ _).symm.trans H; with_reducible exact H2_) | with_reducible exact H | (rw [nQ]; exact H) | exact H
                    have Ny613 := Aside0.mk nQ
                    clear nQ
                    have sK := eq_true (of_decide_eq_true (Z4) : 0 ≤ ax)
                    have qN := eq_true (of_decide_eq_true (Z4) : ax ≤ (ai.length : Int))
                    obtain ⟨bY, nR⟩ : ∃ y_ : List (S30), y_ = (ai.drop (ax : Int).toNat) := ⟨_, rfl⟩
                    replace H : (if dC.length + bY.length < 8796093022208 then (spec_RowOrder.l1 k3 l0 aw cq aQ (dC ++ bY) l0 (l0.length : Int) (wrap64 (ah + 1))) else (none)) = some (r1, r2) := by first | (rw [nR]; with_reducible exact H) | (have H2_ := (Option.bind_some _ _).symm.trans H; rw [nR]; with_reducible exact H2_) | (have H2_ := (Option.bind_some _ _).symm.trans H; with_reducible exact H2_) | with_reducible exact H | (rw [nR]; exact H) | exact H
                    have iL := Aside0.mk nR
                    clear nR
                    by_cases c25 : dC.length + bY.length < 8796093022208
                    ·rw [if_pos c25] at H
                     have LMc25 := Aside0.mk c25
                     clear c25
                     obtain ⟨Bh, nS⟩ : ∃ y_ : List (S30), y_ = (dC ++ bY) := ⟨_, rfl⟩
                     replace H : (spec_RowOrder.l1 k3 l0 aw cq aQ Bh l0 (l0.length : Int) (wrap64 (ah + 1))) = some (r1, r2) := by first | (rw [nS]; with_reducible exact H) | (have H2_ := (Option.bind_some _ _).symm.trans H; rw [nS]; with_reducible exact H2_) | (have H2_ := (Option.bind_some _ _).symm.trans H; with_reducible exact H2_) | with_reducible exact H | (rw [nS]; exact H) | exact H
                     have Ny620 := Aside0.mk nS
                     clear nS
                     have H' := Aside0.mk H
                     clear H
                     try go_wp2
                     refine k4_ (Kd.R_drew aj.out) (Kd.R_drew ar.out) (blk_drew ao.out) (below_drew1 HB.out) ?_
                     clear aj ar ao HB
                     intro aj ar ao HB
                     have pZ : 0 ≤ ((dd) : Int) := of_decide_eq_true (Z4)
                     have p0 : (dd) < (ai.length : Int) := of_decide_eq_true (Z4)
                     obtain ⟨br, e599, g8, g9⟩ := at_T30 (Kd.R_reads' ar.out).2.2 (dd) pZ p0
                     cases e599
                     replace pZ := eq_true pZ
                     replace p0 := eq_true p0
                     refine start_ (n := 13) (S := fun w' => w'.cell? ⟨aq, 0, none⟩ = some (.int .i64 ((rd_T30 l0 ah).f0)) ∧ w'.cell? ⟨aq, 1, none⟩ = some (.int .i64 ((rd_T30 l0 ah).f1)) ∧ w'.cell? (br.add (((dd)).toNat * 2)) = some (.int .i64 ((rd_T30 ai (dd)).f0)) ∧ w'.cell? ⟨(br.add (((dd)).toNat * 2)).block, (br.add (((dd)).toNat * 2)).off + 1, none⟩ = some (.int .i64 ((rd_T30 ai (dd)).f1))) (ds := []) (M_ 0 13) (by kernel_rfl) rfl rfl ⟨(blk_cell ao.out 0).trans rfl, (blk_cell ao.out 1).trans rfl, g8, g9⟩ (fun hHeld => ?_); refine with_tabW spec_RowOrder.tab14 spec_RowOrder.bits14 (fun HT_ HW_ => ?_)
                     generalize wr.drew = Dd at aj ar ao HB g8 g9 hHeld ⊢
                     refine pu_ 0 31 (M_ 1 12) ?_
                     refine pu_ 1 32 (M_ 2 11) ?_
                     refine pu_ 2 33 (M_ 3 10) ?_
                     refine pu_ 3 34 (M_ 4 9) ?_
                     refine pu_ 4 35 (M_ 5 8) ?_
                     refine pu_ 5 36 (M_ 6 7) ?_
                     refine pu_ 6 37 (M_ 7 6) ?_
                     refine pu_ 7 38 (M_ 8 5) ?_
                     refine pu_ 9 40 (N_ 13 767) ?_
                     refine tk4_ 8 39 (M_ 10 3) hHeld ?_
                     refine tk4_ 10 41 (M_ 11 2) hHeld ?_
                     refine pu_ 11 42 (M_ 12 1) ?_
                     refine pu_ 12 43 (M_ 13 0) ?_
                     refine done_ (done_of HT_.out (by kernel_rfl)) ?_
                     try go_wp2
                     refine k4_ (Kd.R_drew aj.out) (Kd.R_drew ar.out) (blk_drew ao.out) (below_drew1 HB.out) ?_
                     clear aj ar ao HB
                     intro aj ar ao HB
                     have xf : (ax : Int) ≤ ((ai.length : Int) : Int) := of_decide_eq_true (Z4)
                     obtain ⟨i028, hi028, _, hsz28, _⟩ := info_parts info30
                     have hroom28 : ai.length ≤ ba := (Kd.R_reads' ar.out).2.1
                     have hC28 : Kd.C k30 _ (some br) ai.length ai := (Kd.R_reads' ar.out).2.2
                     have hcut28 := cut_to (P := Tryz.prog) 24 30 .i64 Tryz.underlying24 hi028 (some br) ai.length ba ax (of_decide_eq_true (Z4)) xf hroom28
                     have hr28 := Kd.C_take (m := (ax : Int).toNat) hC28 (by omega)
                     have p8 : da.length = (ax : Int).toNat := (by rw [iK.out, List.length_take]; omega)
                     rw [← iK.out] at hr28
                     rw [← p8] at hcut28
                     have HR606 := Aside0.mk hr28
                     have HC606 := Aside0.mk (show da.length ≤ ba from by omega)
                     clear hr28 hC28 hroom28 hi028 hsz28
                     have KY28 := Aside0.mk p8
                     clear p8
                     have KL28 := Aside0.mk (show (ax : Int).toNat ≤ ai.length from by omega)
                     replace xf := eq_true xf
                     have DA : (ax : Int) ≤ ((ai.length : Int) : Int) := of_decide_eq_true (Z4)
                     obtain ⟨i029, hi029, _, hsz29, _⟩ := info_parts info30
                     have hroom29 : ai.length ≤ ba := (Kd.R_reads' ar.out).2.1
                     have hC29 : Kd.C k30 _ (some br) ai.length ai := (Kd.R_reads' ar.out).2.2
                     have q029 : (0 : Int) ≤ (ax : Int) := of_decide_eq_true (Z4)
                     have hcut29 := cut_from (P := Tryz.prog) 24 30 .i64 Tryz.underlying24 hi029 2 hsz29 (some br) ai.length ba ax q029 DA
                     have hr29 := Kd.C_drop (m := (ax : Int).toNat) (c := ba) hC29 (by omega) hroom29
                     obtain ⟨zb, hA29⟩ : ∃ A1, A1 = (if ba = (ax : Int).toNat then (some br) else ((some br) : Option Addr).map (·.add ((ax : Int).toNat * 2))) := ⟨_, rfl⟩
                     obtain ⟨c29, hc29⟩ : ∃ c1, c1 = ba - (ax : Int).toNat := ⟨_, rfl⟩
                     have vM : bY.length = ai.length - (ax : Int).toNat := (by rw [iL.out, List.length_drop] <;> omega)
                     rw [show (ai).drop (ax : Int).toNat = bY from iL.out.symm] at hr29
                     replace hr29 : Kd.C k30 _ zb bY.length bY := (by rw [hA29]; exact hr29)
                     rw [← vM, ← hA29, ← hc29] at hcut29
                     have HR619 := Aside0.mk hr29
                     have HC619 := Aside0.mk (show bY.length ≤ c29 from by rw [vM, hc29]; exact Nat.sub_le_sub_right hroom29 _)
                     clear hr29 hC29 hroom29 hi029 hsz29 hc29
                     have KY29 := Aside0.mk vM
                     have rR := Aside0.mk hA29
                     clear vM hA29
                     have KL29 := Aside0.mk (show (ax : Int).toNat ≤ ai.length from by omega)
                     replace DA := eq_true DA
                     refine start_ (n := 13) (S := fun w' => w'.cell? ⟨aq, 0, none⟩ = some (.int .i64 ((rd_T30 l0 ah).f0)) ∧ w'.cell? ⟨aq, 1, none⟩ = some (.int .i64 ((rd_T30 l0 ah).f1))) (ds := []) (M_ 0 13) (by kernel_rfl) rfl rfl ⟨(blk_cell ao.out 0).trans rfl, (blk_cell ao.out 1).trans rfl⟩ (fun hHeld => ?_); refine with_tabW spec_RowOrder.tab16 spec_RowOrder.bits16 (fun HT_ HW_ => ?_)
                     generalize Dd.drew = w27 at aj ar ao HB HR606 HR619 hHeld ⊢
                     refine pu_ 1 47 (N_ 13 2) ?_
                     refine pu_ 2 48 (N_ 13 6) ?_
                     refine pu_ 3 49 (N_ 13 14) ?_
                     refine pu_ 8 54 (N_ 13 270) ?_
                     refine pu_ 9 55 (N_ 13 782) ?_
                     refine pu_ 10 56 (N_ 13 1806) ?_
                     refine tk2_ 5 51 (N_ 13 1838) hHeld ?_
                     refine join_ (σ := Value × Value × Value) 3 (N_ 13 1919) (fun s_ => [(46, s_.1), (50, s_.2.1), (52, s_.2.2)]) (fun s_ w' => (w'.cell? ⟨aq, 0, none⟩ = some (.int .i64 ((rd_T30 l0 ah).f0)) ∧ w'.cell? ⟨aq, 1, none⟩ = some (.int .i64 ((rd_T30 l0 ah).f1))) ∧ (Kd.R k30 30 w' w.heap.size (fun k_ => some k_ ≠ (s_.2.2 : Value).ownBlock ∧ some k_ ≠ (u4 : Value).ownBlock ∧ some k_ ≠ (.slice (some br) ai.length ba : Value).ownBlock ∧ k_ ≠ aq) s_.2.1 eX) ∧ (Kd.R k30 30 w' w.heap.size (fun k_ => some k_ ≠ (s_.2.1 : Value).ownBlock ∧ some k_ ≠ (u4 : Value).ownBlock ∧ some k_ ≠ (.slice (some br) ai.length ba : Value).ownBlock ∧ k_ ≠ aq) s_.2.2 cL) ∧ (Kd.R k30 30 w' w.heap.size (fun k_ => some k_ ≠ (s_.2.1 : Value).ownBlock ∧ some k_ ≠ (s_.2.2 : Value).ownBlock ∧ some k_ ≠ (.slice (some br) ai.length ba : Value).ownBlock ∧ k_ ≠ aq) u4 aw) ∧ (Kd.R k30 30 w' w.heap.size (fun k_ => some k_ ≠ (s_.2.1 : Value).ownBlock ∧ some k_ ≠ (s_.2.2 : Value).ownBlock ∧ some k_ ≠ (u4 : Value).ownBlock ∧ k_ ≠ aq) (.slice (some br) ai.length ba) ai) ∧ (w'.heap[aq]? = some (.cells #[.int .i64 ((rd_T30 l0 ah).f0), .int .i64 ((rd_T30 l0 ah).f1)] 30 (0, 0))) ∧ (Below w.heap.size w w')) ?_ ?_
                     rotate_left
                     ·intro hCont
                      refine two_ (i := 0) (j := 6) (Ni := some 46) (Nj := some 52) (N_ 13 1839) (N_ 13 1902) rfl rfl rfl rfl (two_of HT_.out (by kernel_rfl)) (by decide) (by decide) (fun K hK => ?_) (fun K hK => ?_)
                      ·skip
                       refine Kd.R_lit_step k30 _ 30 ?hg (N := 46) ?hd (xs := ([] : List (S30))) (inner := []) (ok := fun _ => True) (okp := fun _ => True) ?hr ?hp (fun _ hk => hk) trivial (Below.refl _ _) (Nat.le_refl _) (by simp) ?_; (case hd => rfl); (case hg => rfl); (case hr => exact Z29); (case hp => exact (Reps.none _ _))
                       intro nT pq ho31 hb hg_ hnew_
                       clear hg_ hnew_
                       (first | rw [← qZ.out] at ho31 | (simp only [Int.reduceToNat] at ho31; rw [← qZ.out] at ho31))
                       have n0_ := Aside0.mk (Kd.R_elder' (Z1 aj) (Kd.R_base ho31) hb)
                       have n1_ := Aside0.mk (Kd.R_elder' (Z1 ar) (Kd.R_base ho31) hb)
                       have n2_ := Aside0.mk (Kd.R_lower (Kd.R_newB (Kd.R_new' (Kd.R_new' ho31 (Yd_ aj)) (Yd_ ar)) (g := aq) (o := .cells #[.int .i64 ((rd_T30 l0 ah).f0), .int .i64 ((rd_T30 l0 ah).f1)] 30 (0, 0)) (Z6 ao)) (below_size (Z14)))
                       have n3_ := Aside0.mk (Ye_ ao)
                       have n4_ := Aside0.mk (Kd.C_below (Z11 HR606) hb)
                       have n5_ := Aside0.mk (Kd.C_below (Z11 HR619) hb)
                       have n6_ := Aside0.mk (below_step (Z14) hb)
                       clear aj
                       clear ar
                       clear ao
                       clear HR606
                       clear HR619
                       clear HB
                       have aj := n0_
                       have ar := n1_
                       have eH := n2_
                       have ao := n3_
                       have HR606 := n4_
                       have HR619 := n5_
                       have HB := n6_
                       clear n0_ n1_ n2_ n3_ n4_ n5_ n6_
                       clear hb ho31
                       refine hK.out _ _ ⟨(blk_cell ao.out 0).trans rfl, (blk_cell ao.out 1).trans rfl⟩ (fun hHeld => ?_)
                       clear hK K
                       refine norm_ (a' := ?_) ?_ ?_
                       rotate_left
                       ·show Act.put _ (some 46) _ = _
                        simp only [Act.put, List.setIfInBounds_toArray, List.set_cons_zero, List.set_cons_succ, i64_w, i32_w]
                        rfl
                       refine two_ (i := 4) (j := 6) (Ni := some 50) (Nj := some 52) (N_ 13 1855) (N_ 13 1903) rfl rfl rfl rfl (two_of HT_.out (by kernel_rfl)) (by decide) (by decide) (fun K hK => ?_) (fun K hK => ?_)
                       ·skip
                        refine Kd.R_append_rows_step k30 (w0 := w) w.heap.size (by rfl) (.tmp 46) (.tmp 49) 24 30 (.agg #[(.int .i64 0), (.int .i64 0)]) 16 rfl Tryz.underlying24 info30 rfl (by decide) (by omega) nT gL da _ _ _ (fun k_ => some k_ ≠ (u4 : Value).ownBlock ∧ some k_ ≠ (.slice (some br) ai.length ba : Value).ownBlock ∧ k_ ≠ aq) (fun _ => False) rfl rfl ?aO ?aR (fun _ _ h => h) (fun _ h => h.elim) ?aF ?aB ?aS ?aL ?_
                        (case aR => exact Z118)
                        (case aB => exact Z14)
                        (case aF => exact (fun k_ hk => ⟨Kd.fresh' (Yd_ aj) k_ hk, Kd.fresh' (Yd_ ar) k_ hk, Kd.freshB (g := aq) (o := .cells #[.int .i64 ((rd_T30 l0 ah).f0), .int .i64 ((rd_T30 l0 ah).f1)] 30 (0, 0)) (Z6 ao) k_ hk⟩))
                        (case aO => exact (Z91 eH))
                        (case aS => exact (below_size (Z14)))
                        (case aL => exact Z76 nN)
                        intro jH sw ho hb hg hat
                        rw [← tB.out] at ho
                        have n0_ := Aside0.mk (Kd.R_after (ok := (fun k_ => some k_ ≠ (.slice (some br) ai.length ba : Value).ownBlock ∧ k_ ≠ aq)) (Z1 aj) hg hat)
                        have n1_ := Aside0.mk (Kd.R_after (ok := (fun k_ => some k_ ≠ (u4 : Value).ownBlock ∧ k_ ≠ aq)) (Z1 ar) hg hat)
                        have n2_ := Aside0.mk (blk_grown (g := aq) (o := .cells #[.int .i64 ((rd_T30 l0 ah).f0), .int .i64 ((rd_T30 l0 ah).f1)] 30 (0, 0)) (Z6 ao) hg (Kd.R_away eH.out (fun _ hk => hk.2)))
                        have n3_ := Aside0.mk (hb)
                        have n4_ := Aside0.mk ((show Kd.C k30 sw (some br) da.length da from by rw [iK.out]; exact Kd.C_take (m := (ax : Int).toNat) ((Kd.R_reads' (Kd.R_after (ok := (fun k_ => some k_ ≠ (u4 : Value).ownBlock ∧ k_ ≠ aq)) (Z1 ar) hg hat)).2.2) KL28.out))
                        have n5_ := Aside0.mk ((show Kd.C k30 sw zb bY.length bY from by rw [iL.out, rR.out]; exact Kd.C_drop (m := (ax : Int).toNat) (c := ba) ((Kd.R_reads' (Kd.R_after (ok := (fun k_ => some k_ ≠ (u4 : Value).ownBlock ∧ k_ ≠ aq)) (Z1 ar) hg hat)).2.2) KL29.out ((Kd.R_reads' (Kd.R_after (ok := (fun k_ => some k_ ≠ (u4 : Value).ownBlock ∧ k_ ≠ aq)) (Z1 ar) hg hat)).2.1)))
                        have n6_ := Aside0.mk (ho)
                        clear aj
                        clear ar
                        clear ao
                        clear HB
                        clear HR606
                        clear HR619
                        clear eH
                        have aj := n0_
                        have ar := n1_
                        have ao := n2_
                        have HB := n3_
                        have HR606 := n4_
                        have HR619 := n5_
                        have e5 := n6_
                        clear n0_ n1_ n2_ n3_ n4_ n5_ n6_
                        clear ho hb hg hat
                        refine hK.out _ _ ⟨(blk_cell ao.out 0).trans rfl, (blk_cell ao.out 1).trans rfl⟩ (fun hHeld => ?_)
                        clear hK K
                        refine norm_ (a' := ?_) ?_ ?_
                        rotate_left
                        ·show Act.put _ (some 50) _ = _
                         simp only [Act.put, List.setIfInBounds_toArray, List.set_cons_zero, List.set_cons_succ, i64_w, i32_w]
                         rfl
                        refine one_ (i := 6) (N := some 52) (N_ 13 1919) rfl rfl (one_of HT_.out (by kernel_rfl)) (by decide) (fun K hK => ?_)
                        refine Kd.R_lit_step k30 _ 30 ?hg (N := 52) ?hd (xs := ([(⟨((rd_T30 l0 ah).f0), ((rd_T30 l0 ah).f1)⟩ : S30)] : List (S30))) (inner := [.int .i64 ((rd_T30 l0 ah).f0), .int .i64 ((rd_T30 l0 ah).f1)]) (ok := fun _ => True) (okp := fun _ => True) ?hr ?hp (fun _ hk => hk) trivial (Below.refl _ _) (Nat.le_refl _) (by simp) ?_; (case hd => rfl); (case hg => rfl); (case hr => exact Z29); (case hp => exact (Reps.c2 (show Kd.M k30 _ _ _ (⟨((rd_T30 l0 ah).f0), ((rd_T30 l0 ah).f1)⟩ : S30) [.int .i64 ((rd_T30 l0 ah).f0), .int .i64 ((rd_T30 l0 ah).f1)] from (k30_mkM _ _ _ (⟨((rd_T30 l0 ah).f0), ((rd_T30 l0 ah).f1)⟩ : S30) )) (Reps.none _ _)))
                        intro ey ir ho34 hb hg_ hnew_
                        clear hg_ hnew_
                        (first | rw [← lS.out] at ho34 | (simp only [Int.reduceToNat] at ho34; rw [← lS.out] at ho34))
                        have n0_ := Aside0.mk (Kd.R_elder' (Z1 aj) (Kd.R_base ho34) hb)
                        have n1_ := Aside0.mk (Kd.R_elder' (Z1 ar) (Kd.R_base ho34) hb)
                        have n2_ := Aside0.mk (Kd.R_elder' (Z1 e5) (Kd.R_base ho34) hb)
                        have n3_ := Aside0.mk (Kd.R_lower (Kd.R_newB (Kd.R_new' (Kd.R_new' (Kd.R_new' ho34 (Yd_ aj)) (Yd_ ar)) (Yd_ e5)) (g := aq) (o := .cells #[.int .i64 ((rd_T30 l0 ah).f0), .int .i64 ((rd_T30 l0 ah).f1)] 30 (0, 0)) (Z6 ao)) (below_size (Z14)))
                        have n4_ := Aside0.mk (Ye_ ao)
                        have n5_ := Aside0.mk (Kd.C_below (Z11 HR606) hb)
                        have n6_ := Aside0.mk (Kd.C_below (Z11 HR619) hb)
                        have n7_ := Aside0.mk (below_step (Z14) hb)
                        clear aj
                        clear ar
                        clear e5
                        clear ao
                        clear HR606
                        clear HR619
                        clear HB
                        have aj := n0_
                        have ar := n1_
                        have e5 := n2_
                        have b4 := n3_
                        have ao := n4_
                        have HR606 := n5_
                        have HR619 := n6_
                        have HB := n7_
                        clear n0_ n1_ n2_ n3_ n4_ n5_ n6_ n7_
                        clear hb ho34
                        refine hK.out _ _ ⟨(blk_cell ao.out 0).trans rfl, (blk_cell ao.out 1).trans rfl⟩ (fun hHeld => ?_)
                        clear hK K
                        refine norm_ (a' := ?_) ?_ ?_
                        rotate_left
                        ·show Act.put _ (some 52) _ = _
                         simp only [Act.put, List.setIfInBounds_toArray, List.set_cons_zero, List.set_cons_succ, i64_w, i32_w]
                         rfl
                        exact norm_ (Z53) (hCont (nT, jH, ey) _ ⟨hHeld, (Z65 e5), (Z152 b4), (Z84 aj), (Z84 ar), (Z6 ao), (Z14)⟩)
                       skip
                       refine Kd.R_lit_step k30 _ 30 ?hg (N := 52) ?hd (xs := ([(⟨((rd_T30 l0 ah).f0), ((rd_T30 l0 ah).f1)⟩ : S30)] : List (S30))) (inner := [.int .i64 ((rd_T30 l0 ah).f0), .int .i64 ((rd_T30 l0 ah).f1)]) (ok := fun _ => True) (okp := fun _ => True) ?hr ?hp (fun _ hk => hk) trivial (Below.refl _ _) (Nat.le_refl _) (by simp) ?_; (case hd => rfl); (case hg => rfl); (case hr => exact Z29); (case hp => exact (Reps.c2 (show Kd.M k30 _ _ _ (⟨((rd_T30 l0 ah).f0), ((rd_T30 l0 ah).f1)⟩ : S30) [.int .i64 ((rd_T30 l0 ah).f0), .int .i64 ((rd_T30 l0 ah).f1)] from (k30_mkM _ _ _ (⟨((rd_T30 l0 ah).f0), ((rd_T30 l0 ah).f1)⟩ : S30) )) (Reps.none _ _)))
                       intro ey sw ho33 hb hg_ hnew_
                       clear hg_ hnew_
                       (first | rw [← lS.out] at ho33 | (simp only [Int.reduceToNat] at ho33; rw [← lS.out] at ho33))
                       have n0_ := Aside0.mk (Kd.R_elder' (Z1 aj) (Kd.R_base ho33) hb)
                       have n1_ := Aside0.mk (Kd.R_elder' (Z1 ar) (Kd.R_base ho33) hb)
                       have n2_ := Aside0.mk (Kd.R_elder' (Z1 eH) (Kd.R_base ho33) hb)
                       have n3_ := Aside0.mk (Kd.R_lower (Kd.R_newB (Kd.R_new' (Kd.R_new' (Kd.R_new' ho33 (Yd_ aj)) (Yd_ ar)) (Yd_ eH)) (g := aq) (o := .cells #[.int .i64 ((rd_T30 l0 ah).f0), .int .i64 ((rd_T30 l0 ah).f1)] 30 (0, 0)) (Z6 ao)) (below_size (Z14)))
                       have n4_ := Aside0.mk (Ye_ ao)
                       have n5_ := Aside0.mk (Kd.C_below (Z11 HR606) hb)
                       have n6_ := Aside0.mk (Kd.C_below (Z11 HR619) hb)
                       have n7_ := Aside0.mk (below_step (Z14) hb)
                       clear aj
                       clear ar
                       clear eH
                       clear ao
                       clear HR606
                       clear HR619
                       clear HB
                       have aj := n0_
                       have ar := n1_
                       have eH := n2_
                       have b4 := n3_
                       have ao := n4_
                       have HR606 := n5_
                       have HR619 := n6_
                       have HB := n7_
                       clear n0_ n1_ n2_ n3_ n4_ n5_ n6_ n7_
                       clear hb ho33
                       refine hK.out _ _ ⟨(blk_cell ao.out 0).trans rfl, (blk_cell ao.out 1).trans rfl⟩ (fun hHeld => ?_)
                       clear hK K
                       refine norm_ (a' := ?_) ?_ ?_
                       rotate_left
                       ·show Act.put _ (some 52) _ = _
                        simp only [Act.put, List.setIfInBounds_toArray, List.set_cons_zero, List.set_cons_succ, i64_w, i32_w]
                        rfl
                       refine one_ (i := 4) (N := some 50) (N_ 13 1919) rfl rfl (one_of HT_.out (by kernel_rfl)) (by decide) (fun K hK => ?_)
                       refine Kd.R_append_rows_step k30 (w0 := w) w.heap.size (by rfl) (.tmp 46) (.tmp 49) 24 30 (.agg #[(.int .i64 0), (.int .i64 0)]) 16 rfl Tryz.underlying24 info30 rfl (by decide) (by omega) nT gL da _ _ _ (fun k_ => some k_ ≠ (u4 : Value).ownBlock ∧ some k_ ≠ (.slice (some br) ai.length ba : Value).ownBlock ∧ some k_ ≠ (ey : Value).ownBlock ∧ k_ ≠ aq) (fun _ => False) rfl rfl ?aO ?aR (fun _ _ h => h) (fun _ h => h.elim) ?aF ?aB ?aS ?aL ?_
                       (case aR => exact Z118)
                       (case aB => exact Z14)
                       (case aF => exact (fun k_ hk => ⟨Kd.fresh' (Yd_ aj) k_ hk, Kd.fresh' (Yd_ ar) k_ hk, Kd.fresh' (Yd_ b4) k_ hk, Kd.freshB (g := aq) (o := .cells #[.int .i64 ((rd_T30 l0 ah).f0), .int .i64 ((rd_T30 l0 ah).f1)] 30 (0, 0)) (Z6 ao) k_ hk⟩))
                       (case aO => exact (Z153 eH))
                       (case aS => exact (below_size (Z14)))
                       (case aL => exact Z76 nN)
                       intro jH ne ho hb hg hat
                       rw [← tB.out] at ho
                       have n0_ := Aside0.mk (Kd.R_after (ok := (fun k_ => some k_ ≠ (.slice (some br) ai.length ba : Value).ownBlock ∧ some k_ ≠ (ey : Value).ownBlock ∧ k_ ≠ aq)) (Z47 aj) hg hat)
                       have n1_ := Aside0.mk (Kd.R_after (ok := (fun k_ => some k_ ≠ (u4 : Value).ownBlock ∧ some k_ ≠ (ey : Value).ownBlock ∧ k_ ≠ aq)) (Z47 ar) hg hat)
                       have n2_ := Aside0.mk (blk_grown (g := aq) (o := .cells #[.int .i64 ((rd_T30 l0 ah).f0), .int .i64 ((rd_T30 l0 ah).f1)] 30 (0, 0)) (Z6 ao) hg (Kd.R_away eH.out (fun _ hk => hk.1.2)))
                       have n3_ := Aside0.mk (Kd.R_after (ok := (fun k_ => some k_ ≠ (u4 : Value).ownBlock ∧ some k_ ≠ (.slice (some br) ai.length ba : Value).ownBlock ∧ k_ ≠ aq)) (Z154 b4) hg hat)
                       have n4_ := Aside0.mk (hb)
                       have n5_ := Aside0.mk ((show Kd.C k30 ne (some br) da.length da from by rw [iK.out]; exact Kd.C_take (m := (ax : Int).toNat) ((Kd.R_reads' (Kd.R_after (ok := (fun k_ => some k_ ≠ (u4 : Value).ownBlock ∧ some k_ ≠ (ey : Value).ownBlock ∧ k_ ≠ aq)) (Z47 ar) hg hat)).2.2) KL28.out))
                       have n6_ := Aside0.mk ((show Kd.C k30 ne zb bY.length bY from by rw [iL.out, rR.out]; exact Kd.C_drop (m := (ax : Int).toNat) (c := ba) ((Kd.R_reads' (Kd.R_after (ok := (fun k_ => some k_ ≠ (u4 : Value).ownBlock ∧ some k_ ≠ (ey : Value).ownBlock ∧ k_ ≠ aq)) (Z47 ar) hg hat)).2.2) KL29.out ((Kd.R_reads' (Kd.R_after (ok := (fun k_ => some k_ ≠ (u4 : Value).ownBlock ∧ some k_ ≠ (ey : Value).ownBlock ∧ k_ ≠ aq)) (Z47 ar) hg hat)).2.1)))
                       have n7_ := Aside0.mk (ho)
                       clear aj
                       clear ar
                       clear ao
                       clear b4
                       clear HB
                       clear HR606
                       clear HR619
                       clear eH
                       have aj := n0_
                       have ar := n1_
                       have ao := n2_
                       have b4 := n3_
                       have HB := n4_
                       have HR606 := n5_
                       have HR619 := n6_
                       have e5 := n7_
                       clear n0_ n1_ n2_ n3_ n4_ n5_ n6_ n7_
                       clear ho hb hg hat
                       refine hK.out _ _ ⟨(blk_cell ao.out 0).trans rfl, (blk_cell ao.out 1).trans rfl⟩ (fun hHeld => ?_)
                       clear hK K
                       refine norm_ (a' := ?_) ?_ ?_
                       rotate_left
                       ·show Act.put _ (some 50) _ = _
                        simp only [Act.put, List.setIfInBounds_toArray, List.set_cons_zero, List.set_cons_succ, i64_w, i32_w]
                        rfl
                       exact norm_ (Z53) (hCont (nT, jH, ey) _ ⟨hHeld, (Z85 e5), (Z65 b4), (Z60 aj), (Z60 ar), (Z6 ao), (Z14)⟩)
                      skip
                      refine Kd.R_lit_step k30 _ 30 ?hg (N := 52) ?hd (xs := ([(⟨((rd_T30 l0 ah).f0), ((rd_T30 l0 ah).f1)⟩ : S30)] : List (S30))) (inner := [.int .i64 ((rd_T30 l0 ah).f0), .int .i64 ((rd_T30 l0 ah).f1)]) (ok := fun _ => True) (okp := fun _ => True) ?hr ?hp (fun _ hk => hk) trivial (Below.refl _ _) (Nat.le_refl _) (by simp) ?_; (case hd => rfl); (case hg => rfl); (case hr => exact Z29); (case hp => exact (Reps.c2 (show Kd.M k30 _ _ _ (⟨((rd_T30 l0 ah).f0), ((rd_T30 l0 ah).f1)⟩ : S30) [.int .i64 ((rd_T30 l0 ah).f0), .int .i64 ((rd_T30 l0 ah).f1)] from (k30_mkM _ _ _ (⟨((rd_T30 l0 ah).f0), ((rd_T30 l0 ah).f1)⟩ : S30) )) (Reps.none _ _)))
                      intro ey pq ho31 hb hg_ hnew_
                      clear hg_ hnew_
                      (first | rw [← lS.out] at ho31 | (simp only [Int.reduceToNat] at ho31; rw [← lS.out] at ho31))
                      have n0_ := Aside0.mk (Kd.R_elder' (Z1 aj) (Kd.R_base ho31) hb)
                      have n1_ := Aside0.mk (Kd.R_elder' (Z1 ar) (Kd.R_base ho31) hb)
                      have n2_ := Aside0.mk (Kd.R_lower (Kd.R_newB (Kd.R_new' (Kd.R_new' ho31 (Yd_ aj)) (Yd_ ar)) (g := aq) (o := .cells #[.int .i64 ((rd_T30 l0 ah).f0), .int .i64 ((rd_T30 l0 ah).f1)] 30 (0, 0)) (Z6 ao)) (below_size (Z14)))
                      have n3_ := Aside0.mk (Ye_ ao)
                      have n4_ := Aside0.mk (Kd.C_below (Z11 HR606) hb)
                      have n5_ := Aside0.mk (Kd.C_below (Z11 HR619) hb)
                      have n6_ := Aside0.mk (below_step (Z14) hb)
                      clear aj
                      clear ar
                      clear ao
                      clear HR606
                      clear HR619
                      clear HB
                      have aj := n0_
                      have ar := n1_
                      have b4 := n2_
                      have ao := n3_
                      have HR606 := n4_
                      have HR619 := n5_
                      have HB := n6_
                      clear n0_ n1_ n2_ n3_ n4_ n5_ n6_
                      clear hb ho31
                      refine hK.out _ _ ⟨(blk_cell ao.out 0).trans rfl, (blk_cell ao.out 1).trans rfl⟩ (fun hHeld => ?_)
                      clear hK K
                      refine norm_ (a' := ?_) ?_ ?_
                      rotate_left
                      ·show Act.put _ (some 52) _ = _
                       simp only [Act.put, List.setIfInBounds_toArray, List.set_cons_zero, List.set_cons_succ, i64_w, i32_w]
                       rfl
                      refine one_ (i := 0) (N := some 46) (N_ 13 1903) rfl rfl (one_of HT_.out (by kernel_rfl)) (by decide) (fun K hK => ?_)
                      refine Kd.R_lit_step k30 _ 30 ?hg (N := 46) ?hd (xs := ([] : List (S30))) (inner := []) (ok := fun _ => True) (okp := fun _ => True) ?hr ?hp (fun _ hk => hk) trivial (Below.refl _ _) (Nat.le_refl _) (by simp) ?_; (case hd => rfl); (case hg => rfl); (case hr => exact Z29); (case hp => exact (Reps.none _ _))
                      intro nT sw ho33 hb hg_ hnew_
                      clear hg_ hnew_
                      (first | rw [← qZ.out] at ho33 | (simp only [Int.reduceToNat] at ho33; rw [← qZ.out] at ho33))
                      have n0_ := Aside0.mk (Kd.R_elder' (Z1 aj) (Kd.R_base ho33) hb)
                      have n1_ := Aside0.mk (Kd.R_elder' (Z1 ar) (Kd.R_base ho33) hb)
                      have n2_ := Aside0.mk (Kd.R_elder' (Z1 b4) (Kd.R_base ho33) hb)
                      have n3_ := Aside0.mk (Kd.R_lower (Kd.R_newB (Kd.R_new' (Kd.R_new' (Kd.R_new' ho33 (Yd_ aj)) (Yd_ ar)) (Yd_ b4)) (g := aq) (o := .cells #[.int .i64 ((rd_T30 l0 ah).f0), .int .i64 ((rd_T30 l0 ah).f1)] 30 (0, 0)) (Z6 ao)) (below_size (Z14)))
                      have n4_ := Aside0.mk (Ye_ ao)
                      have n5_ := Aside0.mk (Kd.C_below (Z11 HR606) hb)
                      have n6_ := Aside0.mk (Kd.C_below (Z11 HR619) hb)
                      have n7_ := Aside0.mk (below_step (Z14) hb)
                      clear aj
                      clear ar
                      clear b4
                      clear ao
                      clear HR606
                      clear HR619
                      clear HB
                      have aj := n0_
                      have ar := n1_
                      have b4 := n2_
                      have eH := n3_
                      have ao := n4_
                      have HR606 := n5_
                      have HR619 := n6_
                      have HB := n7_
                      clear n0_ n1_ n2_ n3_ n4_ n5_ n6_ n7_
                      clear hb ho33
                      refine hK.out _ _ ⟨(blk_cell ao.out 0).trans rfl, (blk_cell ao.out 1).trans rfl⟩ (fun hHeld => ?_)
                      clear hK K
                      refine norm_ (a' := ?_) ?_ ?_
                      rotate_left
                      ·show Act.put _ (some 46) _ = _
                       simp only [Act.put, List.setIfInBounds_toArray, List.set_cons_zero, List.set_cons_succ, i64_w, i32_w]
                       rfl
                      refine one_ (i := 4) (N := some 50) (N_ 13 1919) rfl rfl (one_of HT_.out (by kernel_rfl)) (by decide) (fun K hK => ?_)
                      refine Kd.R_append_rows_step k30 (w0 := w) w.heap.size (by rfl) (.tmp 46) (.tmp 49) 24 30 (.agg #[(.int .i64 0), (.int .i64 0)]) 16 rfl Tryz.underlying24 info30 rfl (by decide) (by omega) nT gL da _ _ _ (fun k_ => some k_ ≠ (u4 : Value).ownBlock ∧ some k_ ≠ (.slice (some br) ai.length ba : Value).ownBlock ∧ some k_ ≠ (ey : Value).ownBlock ∧ k_ ≠ aq) (fun _ => False) rfl rfl ?aO ?aR (fun _ _ h => h) (fun _ h => h.elim) ?aF ?aB ?aS ?aL ?_
                      (case aR => exact Z118)
                      (case aB => exact Z14)
                      (case aF => exact (fun k_ hk => ⟨Kd.fresh' (Yd_ aj) k_ hk, Kd.fresh' (Yd_ ar) k_ hk, Kd.fresh' (Yd_ b4) k_ hk, Kd.freshB (g := aq) (o := .cells #[.int .i64 ((rd_T30 l0 ah).f0), .int .i64 ((rd_T30 l0 ah).f1)] 30 (0, 0)) (Z6 ao) k_ hk⟩))
                      (case aO => exact (Z155 eH))
                      (case aS => exact (below_size (Z14)))
                      (case aL => exact Z76 nN)
                      intro jH ne ho hb hg hat
                      rw [← tB.out] at ho
                      have n0_ := Aside0.mk (Kd.R_after (ok := (fun k_ => some k_ ≠ (.slice (some br) ai.length ba : Value).ownBlock ∧ some k_ ≠ (ey : Value).ownBlock ∧ k_ ≠ aq)) (Z48 aj) hg hat)
                      have n1_ := Aside0.mk (Kd.R_after (ok := (fun k_ => some k_ ≠ (u4 : Value).ownBlock ∧ some k_ ≠ (ey : Value).ownBlock ∧ k_ ≠ aq)) (Z48 ar) hg hat)
                      have n2_ := Aside0.mk (blk_grown (g := aq) (o := .cells #[.int .i64 ((rd_T30 l0 ah).f0), .int .i64 ((rd_T30 l0 ah).f1)] 30 (0, 0)) (Z6 ao) hg (Kd.R_away eH.out (fun _ hk => hk.2)))
                      have n3_ := Aside0.mk (Kd.R_after (ok := (fun k_ => some k_ ≠ (u4 : Value).ownBlock ∧ some k_ ≠ (.slice (some br) ai.length ba : Value).ownBlock ∧ k_ ≠ aq)) (Z156 b4) hg hat)
                      have n4_ := Aside0.mk (hb)
                      have n5_ := Aside0.mk ((show Kd.C k30 ne (some br) da.length da from by rw [iK.out]; exact Kd.C_take (m := (ax : Int).toNat) ((Kd.R_reads' (Kd.R_after (ok := (fun k_ => some k_ ≠ (u4 : Value).ownBlock ∧ some k_ ≠ (ey : Value).ownBlock ∧ k_ ≠ aq)) (Z48 ar) hg hat)).2.2) KL28.out))
                      have n6_ := Aside0.mk ((show Kd.C k30 ne zb bY.length bY from by rw [iL.out, rR.out]; exact Kd.C_drop (m := (ax : Int).toNat) (c := ba) ((Kd.R_reads' (Kd.R_after (ok := (fun k_ => some k_ ≠ (u4 : Value).ownBlock ∧ some k_ ≠ (ey : Value).ownBlock ∧ k_ ≠ aq)) (Z48 ar) hg hat)).2.2) KL29.out ((Kd.R_reads' (Kd.R_after (ok := (fun k_ => some k_ ≠ (u4 : Value).ownBlock ∧ some k_ ≠ (ey : Value).ownBlock ∧ k_ ≠ aq)) (Z48 ar) hg hat)).2.1)))
                      have n7_ := Aside0.mk (ho)
                      clear aj
                      clear ar
                      clear ao
                      clear b4
                      clear HB
                      clear HR606
                      clear HR619
                      clear eH
                      have aj := n0_
                      have ar := n1_
                      have ao := n2_
                      have b4 := n3_
                      have HB := n4_
                      have HR606 := n5_
                      have HR619 := n6_
                      have e5 := n7_
                      clear n0_ n1_ n2_ n3_ n4_ n5_ n6_ n7_
                      clear ho hb hg hat
                      refine hK.out _ _ ⟨(blk_cell ao.out 0).trans rfl, (blk_cell ao.out 1).trans rfl⟩ (fun hHeld => ?_)
                      clear hK K
                      refine norm_ (a' := ?_) ?_ ?_
                      rotate_left
                      ·show Act.put _ (some 50) _ = _
                       simp only [Act.put, List.setIfInBounds_toArray, List.set_cons_zero, List.set_cons_succ, i64_w, i32_w]
                       rfl
                      exact norm_ (Z53) (hCont (nT, jH, ey) _ ⟨hHeld, (Z85 e5), (Z65 b4), (Z60 aj), (Z60 ar), (Z6 ao), (Z14)⟩)
                     rintro ⟨nT, jH, ey⟩ qO ⟨hS_, h0_, h1_, h2_, h3_, h4_, h5_⟩
                     have n0_ : Aside0 (Kd.R k30 30 qO w.heap.size (fun k_ => some k_ ≠ (ey : Value).ownBlock ∧ some k_ ≠ (u4 : Value).ownBlock ∧ some k_ ≠ (.slice (some br) ai.length ba : Value).ownBlock ∧ k_ ≠ aq) jH eX) := ⟨h0_⟩
                     have n1_ : Aside0 (Kd.R k30 30 qO w.heap.size (fun k_ => some k_ ≠ (jH : Value).ownBlock ∧ some k_ ≠ (u4 : Value).ownBlock ∧ some k_ ≠ (.slice (some br) ai.length ba : Value).ownBlock ∧ k_ ≠ aq) ey cL) := ⟨h1_⟩
                     have n2_ : Aside0 (Kd.R k30 30 qO w.heap.size (fun k_ => some k_ ≠ (jH : Value).ownBlock ∧ some k_ ≠ (ey : Value).ownBlock ∧ some k_ ≠ (.slice (some br) ai.length ba : Value).ownBlock ∧ k_ ≠ aq) u4 aw) := ⟨h2_⟩
                     have n3_ : Aside0 (Kd.R k30 30 qO w.heap.size (fun k_ => some k_ ≠ (jH : Value).ownBlock ∧ some k_ ≠ (ey : Value).ownBlock ∧ some k_ ≠ (u4 : Value).ownBlock ∧ k_ ≠ aq) (.slice (some br) ai.length ba) ai) := ⟨h3_⟩
                     have n4_ : Aside0 (qO.heap[aq]? = some (.cells #[.int .i64 ((rd_T30 l0 ah).f0), .int .i64 ((rd_T30 l0 ah).f1)] 30 (0, 0))) := ⟨h4_⟩
                     have n5_ : Aside0 (Below w.heap.size w qO) := ⟨h5_⟩
                     clear aj
                     clear ar
                     clear ao
                     clear HB
                     clear h0_ h1_ h2_ h3_ h4_ h5_
                     have e5 := n0_
                     have b4 := n1_
                     have aj := n2_
                     have ar := n3_
                     have ao := n4_
                     have HB := n5_
                     clear n0_ n1_ n2_ n3_ n4_ n5_
                     have hHeld : qO.cell? ⟨aq, 0, none⟩ = some (.int .i64 ((rd_T30 l0 ah).f0)) ∧ qO.cell? ⟨aq, 1, none⟩ = some (.int .i64 ((rd_T30 l0 ah).f1)) := hS_
                     have n_ := Aside0.mk (show Kd.C k30 _ (some br) da.length da from by rw [iK.out]; exact Kd.C_take (m := (ax : Int).toNat) ((Kd.R_reads' ar.out).2.2) KL28.out)
                     (try clear HR606)
                     have HR606 := n_
                     clear n_
                     have n_ := Aside0.mk (show Kd.C k30 _ zb bY.length bY from by rw [iL.out, rR.out]; exact Kd.C_drop (m := (ax : Int).toNat) (c := ba) ((Kd.R_reads' ar.out).2.2) KL29.out ((Kd.R_reads' ar.out).2.1))
                     (try clear HR619)
                     have HR619 := n_
                     clear n_
                     obtain ⟨fz, fA, vL⟩ := Kd.R_slice b4.out
                     (first | subst vL | (injection vL with f1_ f2_ f3_; have f4_ := f1_.symm; have f5_ := f3_.symm; clear f1_ f2_ f3_; subst f4_; subst f5_))
                     refine norm_ (a' := ?_) ?_ ?_
                     rotate_left
                     ·simp only [putAll, Act.put, List.setIfInBounds_toArray, List.set_cons_zero, List.set_cons_succ]
                      rfl
                     refine one_ (i := 7) (N := some 53) (M_ 11 2) rfl rfl (one_of HT_.out (by kernel_rfl)) (by decide) (fun K hK => ?_)
                     refine Kd.R_append_rows_step k30 (w0 := w) w.heap.size (by rfl) (.tmp 50) (.tmp 52) 24 30 (.agg #[(.int .i64 0), (.int .i64 0)]) 16 rfl Tryz.underlying24 info30 rfl (by decide) (by omega) jH eX cL _ _ _ (fun k_ => some k_ ≠ (u4 : Value).ownBlock ∧ some k_ ≠ (.slice (some br) ai.length ba : Value).ownBlock ∧ some k_ ≠ (.slice fz cL.length fA : Value).ownBlock ∧ k_ ≠ aq) (fun _ => False) rfl rfl ?aO ?aR (fun _ _ h => h) (fun _ h => h.elim) ?aF ?aB ?aS ?aL ?_
                     (case aR => exact Z5 b4)
                     (case aB => exact Z14)
                     (case aF => exact (fun k_ hk => ⟨Kd.fresh' (Yd_ aj) k_ hk, Kd.fresh' (Yd_ ar) k_ hk, Kd.fresh' (Yd_ b4) k_ hk, Kd.freshB (g := aq) (o := .cells #[.int .i64 ((rd_T30 l0 ah).f0), .int .i64 ((rd_T30 l0 ah).f1)] 30 (0, 0)) (Z6 ao) k_ hk⟩))
                     (case aO => exact (Z157 e5))
                     (case aS => exact (below_size (Z14)))
                     (case aL => exact Z76 tC)
                     intro v614 eF ho hb hg hat
                     rw [← Ny613.out] at ho
                     have n0_ := Aside0.mk (Kd.R_after (ok := (fun k_ => some k_ ≠ (.slice (some br) ai.length ba : Value).ownBlock ∧ some k_ ≠ (.slice fz cL.length fA : Value).ownBlock ∧ k_ ≠ aq)) (Z49 aj) hg hat)
                     have n1_ := Aside0.mk (Kd.R_after (ok := (fun k_ => some k_ ≠ (u4 : Value).ownBlock ∧ some k_ ≠ (.slice fz cL.length fA : Value).ownBlock ∧ k_ ≠ aq)) (Z49 ar) hg hat)
                     have n2_ := Aside0.mk (blk_grown (g := aq) (o := .cells #[.int .i64 ((rd_T30 l0 ah).f0), .int .i64 ((rd_T30 l0 ah).f1)] 30 (0, 0)) (Z6 ao) hg (Kd.R_away e5.out (fun _ hk => hk.2.2.2)))
                     have n3_ := Aside0.mk (Kd.R_after (ok := (fun k_ => some k_ ≠ (u4 : Value).ownBlock ∧ some k_ ≠ (.slice (some br) ai.length ba : Value).ownBlock ∧ k_ ≠ aq)) (Z158 b4) hg hat)
                     have n4_ := Aside0.mk (hb)
                     have n5_ := Aside0.mk ((show Kd.C k30 eF (some br) da.length da from by rw [iK.out]; exact Kd.C_take (m := (ax : Int).toNat) ((Kd.R_reads' (Kd.R_after (ok := (fun k_ => some k_ ≠ (u4 : Value).ownBlock ∧ some k_ ≠ (.slice fz cL.length fA : Value).ownBlock ∧ k_ ≠ aq)) (Z49 ar) hg hat)).2.2) KL28.out))
                     have n6_ := Aside0.mk ((show Kd.C k30 eF zb bY.length bY from by rw [iL.out, rR.out]; exact Kd.C_drop (m := (ax : Int).toNat) (c := ba) ((Kd.R_reads' (Kd.R_after (ok := (fun k_ => some k_ ≠ (u4 : Value).ownBlock ∧ some k_ ≠ (.slice fz cL.length fA : Value).ownBlock ∧ k_ ≠ aq)) (Z49 ar) hg hat)).2.2) KL29.out ((Kd.R_reads' (Kd.R_after (ok := (fun k_ => some k_ ≠ (u4 : Value).ownBlock ∧ some k_ ≠ (.slice fz cL.length fA : Value).ownBlock ∧ k_ ≠ aq)) (Z49 ar) hg hat)).2.1)))
                     have n7_ := Aside0.mk (ho)
                     clear aj
                     clear ar
                     clear ao
                     clear b4
                     clear HB
                     clear HR606
                     clear HR619
                     clear e5
                     have aj := n0_
                     have ar := n1_
                     have ao := n2_
                     have b4 := n3_
                     have HB := n4_
                     have HR606 := n5_
                     have HR619 := n6_
                     have tD := n7_
                     clear n0_ n1_ n2_ n3_ n4_ n5_ n6_ n7_
                     clear ho hb hg hat
                     refine hK.out _ _ ⟨(blk_cell ao.out 0).trans rfl, (blk_cell ao.out 1).trans rfl⟩ (fun hHeld => ?_)
                     clear hK K
                     refine norm_ (a' := ?_) ?_ ?_
                     rotate_left
                     ·show Act.put _ (some 53) _ = _
                      simp only [Act.put, List.setIfInBounds_toArray, List.set_cons_zero, List.set_cons_succ, i64_w, i32_w]
                      rfl
                     refine one_ (i := 11) (N := some 57) (M_ 12 1) rfl rfl (one_of HT_.out (by kernel_rfl)) (by decide) (fun K hK => ?_)
                     refine Kd.R_append_rows_step k30 (w0 := w) w.heap.size (by rfl) (.tmp 53) (.tmp 56) 24 30 (.agg #[(.int .i64 0), (.int .i64 0)]) 16 rfl Tryz.underlying24 info30 rfl (by decide) (by omega) v614 dC bY _ _ _ (fun k_ => some k_ ≠ (u4 : Value).ownBlock ∧ some k_ ≠ (.slice (some br) ai.length ba : Value).ownBlock ∧ some k_ ≠ (.slice fz cL.length fA : Value).ownBlock ∧ k_ ≠ aq) (fun _ => False) rfl rfl ?aO ?aR (fun _ _ h => h) (fun _ h => h.elim) ?aF ?aB ?aS ?aL ?_
                     (case aR => repeat (first | exact (Z11 HR619) | (with_reducible refine Kd.C_alloc ?_ _) | (with_reducible refine Kd.C_drewN ?_ _) | (with_reducible refine Kd.C_drew ?_)))
                     (case aB => exact Z14)
                     (case aF => exact (fun k_ hk => ⟨Kd.fresh' (Yd_ aj) k_ hk, Kd.fresh' (Yd_ ar) k_ hk, Kd.fresh' (Yd_ b4) k_ hk, Kd.freshB (g := aq) (o := .cells #[.int .i64 ((rd_T30 l0 ah).f0), .int .i64 ((rd_T30 l0 ah).f1)] 30 (0, 0)) (Z6 ao) k_ hk⟩))
                     (case aO => exact (Z1 tD))
                     (case aS => exact (below_size (Z14)))
                     (case aL => exact Z76 LMc25)
                     intro v621 dz ho hb hg hat
                     rw [← Ny620.out] at ho
                     have n0_ := Aside0.mk (Kd.R_after (ok := (fun k_ => some k_ ≠ (.slice (some br) ai.length ba : Value).ownBlock ∧ some k_ ≠ (.slice fz cL.length fA : Value).ownBlock ∧ k_ ≠ aq)) (Z1 aj) hg hat)
                     have n1_ := Aside0.mk (Kd.R_after (ok := (fun k_ => some k_ ≠ (u4 : Value).ownBlock ∧ some k_ ≠ (.slice fz cL.length fA : Value).ownBlock ∧ k_ ≠ aq)) (Z1 ar) hg hat)
                     have n2_ := Aside0.mk (blk_grown (g := aq) (o := .cells #[.int .i64 ((rd_T30 l0 ah).f0), .int .i64 ((rd_T30 l0 ah).f1)] 30 (0, 0)) (Z6 ao) hg (Kd.R_away tD.out (fun _ hk => hk.2.2.2)))
                     have n3_ := Aside0.mk (Kd.R_after (ok := (fun k_ => some k_ ≠ (u4 : Value).ownBlock ∧ some k_ ≠ (.slice (some br) ai.length ba : Value).ownBlock ∧ k_ ≠ aq)) (Z1 b4) hg hat)
                     have n4_ := Aside0.mk (hb)
                     have n5_ := Aside0.mk ((show Kd.C k30 dz (some br) da.length da from by rw [iK.out]; exact Kd.C_take (m := (ax : Int).toNat) ((Kd.R_reads' (Kd.R_after (ok := (fun k_ => some k_ ≠ (u4 : Value).ownBlock ∧ some k_ ≠ (.slice fz cL.length fA : Value).ownBlock ∧ k_ ≠ aq)) (Z1 ar) hg hat)).2.2) KL28.out))
                     have n6_ := Aside0.mk ((show Kd.C k30 dz zb bY.length bY from by rw [iL.out, rR.out]; exact Kd.C_drop (m := (ax : Int).toNat) (c := ba) ((Kd.R_reads' (Kd.R_after (ok := (fun k_ => some k_ ≠ (u4 : Value).ownBlock ∧ some k_ ≠ (.slice fz cL.length fA : Value).ownBlock ∧ k_ ≠ aq)) (Z1 ar) hg hat)).2.2) KL29.out ((Kd.R_reads' (Kd.R_after (ok := (fun k_ => some k_ ≠ (u4 : Value).ownBlock ∧ some k_ ≠ (.slice fz cL.length fA : Value).ownBlock ∧ k_ ≠ aq)) (Z1 ar) hg hat)).2.1)))
                     have n7_ := Aside0.mk (ho)
                     clear aj
                     clear ar
                     clear ao
                     clear b4
                     clear HB
                     clear HR606
                     clear HR619
                     clear tD
                     have aj := n0_
                     have ar := n1_
                     have ao := n2_
                     have b4 := n3_
                     have HB := n4_
                     have HR606 := n5_
                     have HR619 := n6_
                     have HO622 := n7_
                     clear n0_ n1_ n2_ n3_ n4_ n5_ n6_ n7_
                     clear ho hb hg hat
                     refine hK.out _ _ ⟨(blk_cell ao.out 0).trans rfl, (blk_cell ao.out 1).trans rfl⟩ (fun hHeld => ?_)
                     clear hK K
                     refine norm_ (a' := ?_) ?_ ?_
                     rotate_left
                     ·show Act.put _ (some 57) _ = _
                      simp only [Act.put, List.setIfInBounds_toArray, List.set_cons_zero, List.set_cons_succ, i64_w, i32_w]
                      rfl
                     refine pu_ 12 7 (M_ 13 0) ?_
                     refine done_ (done_of HT_.out (by kernel_rfl)) ?_
                     try go_wp2
                     go_roundg k3
                     case measure => have := HK1.out; have := HK2.out; have := HK3.out; omega
                     case rel => exact ⟨(Bh), (wrap64 (ah + 1)), (Z16), H', ⟨Z81⟩, ⟨Z26 aj⟩, ⟨Z104 HO622⟩, ⟨Z14⟩⟩
                    rw [if_neg c25] at H
                    exact absurd H (by simp)
                   rw [if_neg c22] at H
                   exact absurd H (by simp)
                  rw [if_neg c21] at H
                  exact absurd H (by simp)
                 rw [if_neg c20] at H
                 exact absurd H (by simp)
                rw [if_neg c19] at H
                exact absurd H (by simp)
               rw [if_neg c16] at H
               exact absurd H (by simp)
              rw [if_neg c15] at H
              exact absurd H (by simp)
             rw [if_neg c13] at H
             have fZ : decide (0 < ax) = false := decide_eq_false c13
             clear c13
             obtain ⟨iY, nU⟩ : ∃ y_ : List (S30), y_ = (([] : List (S30))) := ⟨_, rfl⟩
             replace H : (if 0 ≤ ax then (if ax ≤ (ai.length : Int) then ((some (ai.take (ax : Int).toNat : List (S30))).bind fun dr => (if iY.length + dr.length < 8796093022208 then ((some (iY ++ dr : List (S30))).bind fun fQ => ((some (([(⟨((rd_T30 l0 ah).f0), ((rd_T30 l0 ah).f1)⟩ : S30)] : List (S30)) : List (S30))).bind fun cX => (if fQ.length + cX.length < 8796093022208 then ((some (fQ ++ cX : List (S30))).bind fun ex => ((some (ai.drop (ax : Int).toNat : List (S30))).bind fun ce => (if ex.length + ce.length < 8796093022208 then (spec_RowOrder.l1 k3 l0 aw cq aQ (ex ++ ce) l0 (l0.length : Int) (wrap64 (ah + 1))) else (none)))) else (none)))) else (none))) else (none)) else (none)) = some (r1, r2) := by first | (rw [nU]; with_reducible exact H) | (have H2_ := (Option.bind_some _ _).symm.trans H; rw [nU]; with_reducible exact H2_) | (have H2_ := (Option.bind_some _ _).symm.trans H; with_reducible exact H2_) | with_reducible exact H | (rw [nU]; exact H) | exact H
             have q0 := Aside0.mk nU
             clear nU
             by_cases c39 : 0 ≤ ax
             ·rw [if_pos c39] at H
              have c39b0 := eq_true c39
              have c39b1 : decide (0 ≤ ax) = true := decide_eq_true c39
              clear c39
              by_cases c40 : ax ≤ (ai.length : Int)
              ·rw [if_pos c40] at H
               have c40b0 := eq_true c40
               have c40b1 : decide (ax ≤ (ai.length : Int)) = true := decide_eq_true c40
               clear c40
               obtain ⟨dr, nV⟩ : ∃ y_ : List (S30), y_ = (ai.take (ax : Int).toNat) := ⟨_, rfl⟩
               replace H : (if iY.length + dr.length < 8796093022208 then ((some (iY ++ dr : List (S30))).bind fun fQ => ((some (([(⟨((rd_T30 l0 ah).f0), ((rd_T30 l0 ah).f1)⟩ : S30)] : List (S30)) : List (S30))).bind fun cX => (if fQ.length + cX.length < 8796093022208 then ((some (fQ ++ cX : List (S30))).bind fun ex => ((some (ai.drop (ax : Int).toNat : List (S30))).bind fun ce => (if ex.length + ce.length < 8796093022208 then (spec_RowOrder.l1 k3 l0 aw cq aQ (ex ++ ce) l0 (l0.length : Int) (wrap64 (ah + 1))) else (none)))) else (none)))) else (none)) = some (r1, r2) := by first | (rw [nV]; with_reducible exact H) | (have H2_ := (Option.bind_some _ _).symm.trans H; rw [nV]; with_reducible exact H2_) | (have H2_ := (Option.bind_some _ _).symm.trans H; with_reducible exact H2_) | with_reducible exact H | (rw [nV]; exact H) | exact H
               have iM := Aside0.mk nV
               clear nV
               by_cases c41 : iY.length + dr.length < 8796093022208
               ·rw [if_pos c41] at H
                have tE := Aside0.mk c41
                clear c41
                obtain ⟨fQ, nW⟩ : ∃ y_ : List (S30), y_ = (iY ++ dr) := ⟨_, rfl⟩
                replace H : ((some (([(⟨((rd_T30 l0 ah).f0), ((rd_T30 l0 ah).f1)⟩ : S30)] : List (S30)) : List (S30))).bind fun cX => (if fQ.length + cX.length < 8796093022208 then ((some (fQ ++ cX : List (S30))).bind fun ex => ((some (ai.drop (ax : Int).toNat : List (S30))).bind fun ce => (if ex.length + ce.length < 8796093022208 then (spec_RowOrder.l1 k3 l0 aw cq aQ (ex ++ ce) l0 (l0.length : Int) (wrap64 (ah + 1))) else (none)))) else (none))) = some (r1, r2) := by first | (rw [nW]; with_reducible exact H) | (have H2_ := (Option.bind_some _ _).symm.trans H; rw [nW]; with_reducible exact H2_) | (have H2_ := (Option.bind_some _ _).symm.trans H; with_reducible exact H2_) | with_reducible exact H | (rw [nW]; exact H) | exact H
                have tF := Aside0.mk nW
                clear nW
                obtain ⟨cX, nX⟩ : ∃ y_ : List (S30), y_ = (([(⟨((rd_T30 l0 ah).f0), ((rd_T30 l0 ah).f1)⟩ : S30)] : List (S30))) := ⟨_, rfl⟩
                replace H : (if fQ.length + cX.length < 8796093022208 then ((some (fQ ++ cX : List (S30))).bind fun ex => ((some (ai.drop (ax : Int).toNat : List (S30))).bind fun ce => (if ex.length + ce.length < 8796093022208 then (spec_RowOrder.l1 k3 l0 aw cq aQ (ex ++ ce) l0 (l0.length : Int) (wrap64 (ah + 1))) else (none)))) else (none)) = some (r1, r2) := by first | (rw [nX]; with_reducible exact H) | (have H2_ := (Option.bind_some _ _).symm.trans H; rw [nX]; with_reducible exact H2_) | (have H2_ := (Option.bind_some _ _).symm.trans H; with_reducible exact H2_) | with_reducible exact H | (rw [nX]; exact H) | exact H
                have lT := Aside0.mk nX
                clear nX
                by_cases c42 : fQ.length + cX.length < 8796093022208
                ·rw [if_pos c42] at H
                 have LMc42 := Aside0.mk c42
                 clear c42
                 obtain ⟨ex, nY⟩ : ∃ y_ : List (S30), y_ = (fQ ++ cX) := ⟨_, rfl⟩
                 replace H : ((some (ai.drop (ax : Int).toNat : List (S30))).bind fun ce => (if ex.length + ce.length < 8796093022208 then (spec_RowOrder.l1 k3 l0 aw cq aQ (ex ++ ce) l0 (l0.length : Int) (wrap64 (ah + 1))) else (none))) = some (r1, r2) := by first | (rw [nY]; with_reducible exact H) | (have H2_ := (Option.bind_some _ _).symm.trans H; rw [nY]; with_reducible exact H2_) | (have H2_ := (Option.bind_some _ _).symm.trans H; with_reducible exact H2_) | with_reducible exact H | (rw [nY]; exact H) | exact H
                 have Ny636 := Aside0.mk nY
                 clear nY
                 have c43b0 := eq_true (of_decide_eq_true (Z4) : 0 ≤ ax)
                 have tG := eq_true (of_decide_eq_true (Z4) : ax ≤ (ai.length : Int))
                 obtain ⟨ce, nZ⟩ : ∃ y_ : List (S30), y_ = (ai.drop (ax : Int).toNat) := ⟨_, rfl⟩
                 replace H : (if ex.length + ce.length < 8796093022208 then (spec_RowOrder.l1 k3 l0 aw cq aQ (ex ++ ce) l0 (l0.length : Int) (wrap64 (ah + 1))) else (none)) = some (r1, r2) := by first | (rw [nZ]; with_reducible exact H) | (have H2_ := (Option.bind_some _ _).symm.trans H; rw [nZ]; with_reducible exact H2_) | (have H2_ := (Option.bind_some _ _).symm.trans H; with_reducible exact H2_) | with_reducible exact H | (rw [nZ]; exact H) | exact H
                 have iN := Aside0.mk nZ
                 clear nZ
                 by_cases c45 : ex.length + ce.length < 8796093022208
                 ·rw [if_pos c45] at H
                  have LMc45 := Aside0.mk c45
                  clear c45
                  obtain ⟨Bi, n0⟩ : ∃ y_ : List (S30), y_ = (ex ++ ce) := ⟨_, rfl⟩
                  replace H : (spec_RowOrder.l1 k3 l0 aw cq aQ Bi l0 (l0.length : Int) (wrap64 (ah + 1))) = some (r1, r2) := by first | (rw [n0]; with_reducible exact H) | (have H2_ := (Option.bind_some _ _).symm.trans H; rw [n0]; with_reducible exact H2_) | (have H2_ := (Option.bind_some _ _).symm.trans H; with_reducible exact H2_) | with_reducible exact H | (rw [n0]; exact H) | exact H
                  have Ny643 := Aside0.mk n0
                  clear n0
                  have H' := Aside0.mk H
                  clear H
                  try go_wp2
                  refine k4_ (Kd.R_drew aj.out) (Kd.R_drew ar.out) (blk_drew ao.out) (below_drew1 HB.out) ?_
                  clear aj ar ao HB
                  intro aj ar ao HB
                  refine start_ (n := 13) (S := fun w' => True) (ds := []) (M_ 0 13) (by kernel_rfl) rfl rfl trivial (fun hHeld => ?_); refine with_tabW spec_RowOrder.tab14 spec_RowOrder.bits14 (fun HT_ HW_ => ?_)
                  generalize wr.drew = e6 at aj ar ao HB hHeld ⊢
                  refine pu_ 0 31 (M_ 1 12) ?_
                  refine pu_ 1 32 (M_ 2 11) ?_
                  refine pu_ 2 33 (M_ 3 10) ?_
                  refine pn_ 3 34 (M_ 4 9) ?_
                  refine pn_ 4 35 (M_ 5 8) ?_
                  refine pn_ 5 36 (M_ 6 7) ?_
                  refine pn_ 6 37 (M_ 7 6) ?_
                  refine pn_ 7 38 (M_ 8 5) ?_
                  refine pn_ 8 39 (M_ 9 4) ?_
                  refine pn_ 9 40 (M_ 10 3) ?_
                  refine pn_ 10 41 (M_ 11 2) ?_
                  refine pn_ 11 42 (M_ 12 1) ?_
                  refine pu_ 12 43 (M_ 13 0) ?_
                  refine done_ (done_of HT_.out (by kernel_rfl)) ?_
                  try go_wp2
                  refine k4_ (Kd.R_drew aj.out) (Kd.R_drew ar.out) (blk_drew ao.out) (below_drew1 HB.out) ?_
                  clear aj ar ao HB
                  intro aj ar ao HB
                  have De : (ax : Int) ≤ ((ai.length : Int) : Int) := of_decide_eq_true (Z4)
                  obtain ⟨i048, hi048, _, hsz48, _⟩ := info_parts info30
                  have hroom48 : ai.length ≤ ba := (Kd.R_reads' ar.out).2.1
                  have hC48 : Kd.C k30 _ cj ai.length ai := (Kd.R_reads' ar.out).2.2
                  have hcut48 := cut_to (P := Tryz.prog) 24 30 .i64 Tryz.underlying24 hi048 cj ai.length ba ax (of_decide_eq_true (Z4)) De hroom48
                  have hr48 := Kd.C_take (m := (ax : Int).toNat) hC48 (by omega)
                  have zc : dr.length = (ax : Int).toNat := (by rw [iM.out, List.length_take]; omega)
                  rw [← iM.out] at hr48
                  rw [← zc] at hcut48
                  have HR629 := Aside0.mk hr48
                  have HC629 := Aside0.mk (show dr.length ≤ ba from by omega)
                  clear hr48 hC48 hroom48 hi048 hsz48
                  have KY48 := Aside0.mk zc
                  clear zc
                  have KL48 := Aside0.mk (show (ax : Int).toNat ≤ ai.length from by omega)
                  replace De := eq_true De
                  have Df : (ax : Int) ≤ ((ai.length : Int) : Int) := of_decide_eq_true (Z4)
                  obtain ⟨i049, hi049, _, hsz49, _⟩ := info_parts info30
                  have hroom49 : ai.length ≤ ba := (Kd.R_reads' ar.out).2.1
                  have hC49 : Kd.C k30 _ cj ai.length ai := (Kd.R_reads' ar.out).2.2
                  have Bj : (0 : Int) ≤ (ax : Int) := of_decide_eq_true (Z4)
                  have hcut49 := cut_from (P := Tryz.prog) 24 30 .i64 Tryz.underlying24 hi049 2 hsz49 cj ai.length ba ax Bj Df
                  have hr49 := Kd.C_drop (m := (ax : Int).toNat) (c := ba) hC49 (by omega) hroom49
                  obtain ⟨zd, hA49⟩ : ∃ A1, A1 = (if ba = (ax : Int).toNat then cj else (cj : Option Addr).map (·.add ((ax : Int).toNat * 2))) := ⟨_, rfl⟩
                  obtain ⟨c49, hc49⟩ : ∃ c1, c1 = ba - (ax : Int).toNat := ⟨_, rfl⟩
                  have vN : ce.length = ai.length - (ax : Int).toNat := (by rw [iN.out, List.length_drop] <;> omega)
                  rw [show (ai).drop (ax : Int).toNat = ce from iN.out.symm] at hr49
                  replace hr49 : Kd.C k30 _ zd ce.length ce := (by rw [hA49]; exact hr49)
                  rw [← vN, ← hA49, ← hc49] at hcut49
                  have HR642 := Aside0.mk hr49
                  have HC642 := Aside0.mk (show ce.length ≤ c49 from by rw [vN, hc49]; exact Nat.sub_le_sub_right hroom49 _)
                  clear hr49 hC49 hroom49 hi049 hsz49 hc49
                  have KY49 := Aside0.mk vN
                  have rS := Aside0.mk hA49
                  clear vN hA49
                  have KL49 := Aside0.mk (show (ax : Int).toNat ≤ ai.length from by omega)
                  replace Df := eq_true Df
                  refine start_ (n := 13) (S := fun w' => w'.cell? ⟨aq, 0, none⟩ = some (.int .i64 ((rd_T30 l0 ah).f0)) ∧ w'.cell? ⟨aq, 1, none⟩ = some (.int .i64 ((rd_T30 l0 ah).f1))) (ds := []) (M_ 0 13) (by kernel_rfl) rfl rfl ⟨(blk_cell ao.out 0).trans rfl, (blk_cell ao.out 1).trans rfl⟩ (fun hHeld => ?_); refine with_tabW spec_RowOrder.tab16 spec_RowOrder.bits16 (fun HT_ HW_ => ?_)
                  generalize e6.drew = DT at aj ar ao HB HR629 HR642 hHeld ⊢
                  refine pu_ 1 47 (N_ 13 2) ?_
                  refine pu_ 2 48 (N_ 13 6) ?_
                  refine pu_ 3 49 (N_ 13 14) ?_
                  refine pu_ 8 54 (N_ 13 270) ?_
                  refine pu_ 9 55 (N_ 13 782) ?_
                  refine pu_ 10 56 (N_ 13 1806) ?_
                  refine tk2_ 5 51 (N_ 13 1838) hHeld ?_
                  refine join_ (σ := Value × Value × Value) 3 (N_ 13 1919) (fun s_ => [(46, s_.1), (50, s_.2.1), (52, s_.2.2)]) (fun s_ w' => (w'.cell? ⟨aq, 0, none⟩ = some (.int .i64 ((rd_T30 l0 ah).f0)) ∧ w'.cell? ⟨aq, 1, none⟩ = some (.int .i64 ((rd_T30 l0 ah).f1))) ∧ (Kd.R k30 30 w' w.heap.size (fun k_ => some k_ ≠ (s_.2.2 : Value).ownBlock ∧ some k_ ≠ (u4 : Value).ownBlock ∧ some k_ ≠ (.slice cj ai.length ba : Value).ownBlock ∧ k_ ≠ aq) s_.2.1 fQ) ∧ (Kd.R k30 30 w' w.heap.size (fun k_ => some k_ ≠ (s_.2.1 : Value).ownBlock ∧ some k_ ≠ (u4 : Value).ownBlock ∧ some k_ ≠ (.slice cj ai.length ba : Value).ownBlock ∧ k_ ≠ aq) s_.2.2 cX) ∧ (Kd.R k30 30 w' w.heap.size (fun k_ => some k_ ≠ (s_.2.1 : Value).ownBlock ∧ some k_ ≠ (s_.2.2 : Value).ownBlock ∧ some k_ ≠ (.slice cj ai.length ba : Value).ownBlock ∧ k_ ≠ aq) u4 aw) ∧ (Kd.R k30 30 w' w.heap.size (fun k_ => some k_ ≠ (s_.2.1 : Value).ownBlock ∧ some k_ ≠ (s_.2.2 : Value).ownBlock ∧ some k_ ≠ (u4 : Value).ownBlock ∧ k_ ≠ aq) (.slice cj ai.length ba) ai) ∧ (w'.heap[aq]? = some (.cells #[.int .i64 ((rd_T30 l0 ah).f0), .int .i64 ((rd_T30 l0 ah).f1)] 30 (0, 0))) ∧ (Below w.heap.size w w')) ?_ ?_
                  rotate_left
                  ·intro hCont
                   refine two_ (i := 0) (j := 6) (Ni := some 46) (Nj := some 52) (N_ 13 1839) (N_ 13 1902) rfl rfl rfl rfl (two_of HT_.out (by kernel_rfl)) (by decide) (by decide) (fun K hK => ?_) (fun K hK => ?_)
                   ·skip
                    refine Kd.R_lit_step k30 _ 30 ?hg (N := 46) ?hd (xs := ([] : List (S30))) (inner := []) (ok := fun _ => True) (okp := fun _ => True) ?hr ?hp (fun _ hk => hk) trivial (Below.refl _ _) (Nat.le_refl _) (by simp) ?_; (case hd => rfl); (case hg => rfl); (case hr => exact Z29); (case hp => exact (Reps.none _ _))
                    intro n1 jI ho51 hb hg_ hnew_
                    clear hg_ hnew_
                    (first | rw [← q0.out] at ho51 | (simp only [Int.reduceToNat] at ho51; rw [← q0.out] at ho51))
                    have n0_ := Aside0.mk (Kd.R_elder' (Z1 aj) (Kd.R_base ho51) hb)
                    have n1_ := Aside0.mk (Kd.R_elder' (Z1 ar) (Kd.R_base ho51) hb)
                    have n2_ := Aside0.mk (Kd.R_lower (Kd.R_newB (Kd.R_new' (Kd.R_new' ho51 (Yd_ aj)) (Yd_ ar)) (g := aq) (o := .cells #[.int .i64 ((rd_T30 l0 ah).f0), .int .i64 ((rd_T30 l0 ah).f1)] 30 (0, 0)) (Z6 ao)) (below_size (Z14)))
                    have n3_ := Aside0.mk (Ye_ ao)
                    have n4_ := Aside0.mk (Kd.C_below (Z11 HR629) hb)
                    have n5_ := Aside0.mk (Kd.C_below (Z11 HR642) hb)
                    have n6_ := Aside0.mk (below_step (Z14) hb)
                    clear aj
                    clear ar
                    clear ao
                    clear HR629
                    clear HR642
                    clear HB
                    have aj := n0_
                    have ar := n1_
                    have eI := n2_
                    have ao := n3_
                    have HR629 := n4_
                    have HR642 := n5_
                    have HB := n6_
                    clear n0_ n1_ n2_ n3_ n4_ n5_ n6_
                    clear hb ho51
                    refine hK.out _ _ ⟨(blk_cell ao.out 0).trans rfl, (blk_cell ao.out 1).trans rfl⟩ (fun hHeld => ?_)
                    clear hK K
                    refine norm_ (a' := ?_) ?_ ?_
                    rotate_left
                    ·show Act.put _ (some 46) _ = _
                     simp only [Act.put, List.setIfInBounds_toArray, List.set_cons_zero, List.set_cons_succ, i64_w, i32_w]
                     rfl
                    refine two_ (i := 4) (j := 6) (Ni := some 50) (Nj := some 52) (N_ 13 1855) (N_ 13 1903) rfl rfl rfl rfl (two_of HT_.out (by kernel_rfl)) (by decide) (by decide) (fun K hK => ?_) (fun K hK => ?_)
                    ·skip
                     refine Kd.R_append_rows_step k30 (w0 := w) w.heap.size (by rfl) (.tmp 46) (.tmp 49) 24 30 (.agg #[(.int .i64 0), (.int .i64 0)]) 16 rfl Tryz.underlying24 info30 rfl (by decide) (by omega) n1 iY dr _ _ _ (fun k_ => some k_ ≠ (u4 : Value).ownBlock ∧ some k_ ≠ (.slice cj ai.length ba : Value).ownBlock ∧ k_ ≠ aq) (fun _ => False) rfl rfl ?aO ?aR (fun _ _ h => h) (fun _ h => h.elim) ?aF ?aB ?aS ?aL ?_
                     (case aR => exact Z119)
                     (case aB => exact Z14)
                     (case aF => exact (fun k_ hk => ⟨Kd.fresh' (Yd_ aj) k_ hk, Kd.fresh' (Yd_ ar) k_ hk, Kd.freshB (g := aq) (o := .cells #[.int .i64 ((rd_T30 l0 ah).f0), .int .i64 ((rd_T30 l0 ah).f1)] 30 (0, 0)) (Z6 ao) k_ hk⟩))
                     (case aO => exact (Z91 eI))
                     (case aS => exact (below_size (Z14)))
                     (case aL => exact Z76 tE)
                     intro jJ rT ho hb hg hat
                     rw [← tF.out] at ho
                     have n0_ := Aside0.mk (Kd.R_after (ok := (fun k_ => some k_ ≠ (.slice cj ai.length ba : Value).ownBlock ∧ k_ ≠ aq)) (Z1 aj) hg hat)
                     have n1_ := Aside0.mk (Kd.R_after (ok := (fun k_ => some k_ ≠ (u4 : Value).ownBlock ∧ k_ ≠ aq)) (Z1 ar) hg hat)
                     have n2_ := Aside0.mk (blk_grown (g := aq) (o := .cells #[.int .i64 ((rd_T30 l0 ah).f0), .int .i64 ((rd_T30 l0 ah).f1)] 30 (0, 0)) (Z6 ao) hg (Kd.R_away eI.out (fun _ hk => hk.2)))
                     have n3_ := Aside0.mk (hb)
                     have n4_ := Aside0.mk ((show Kd.C k30 rT cj dr.length dr from by rw [iM.out]; exact Kd.C_take (m := (ax : Int).toNat) ((Kd.R_reads' (Kd.R_after (ok := (fun k_ => some k_ ≠ (u4 : Value).ownBlock ∧ k_ ≠ aq)) (Z1 ar) hg hat)).2.2) KL48.out))
                     have n5_ := Aside0.mk ((show Kd.C k30 rT zd ce.length ce from by rw [iN.out, rS.out]; exact Kd.C_drop (m := (ax : Int).toNat) (c := ba) ((Kd.R_reads' (Kd.R_after (ok := (fun k_ => some k_ ≠ (u4 : Value).ownBlock ∧ k_ ≠ aq)) (Z1 ar) hg hat)).2.2) KL49.out ((Kd.R_reads' (Kd.R_after (ok := (fun k_ => some k_ ≠ (u4 : Value).ownBlock ∧ k_ ≠ aq)) (Z1 ar) hg hat)).2.1)))
                     have n6_ := Aside0.mk (ho)
                     clear aj
                     clear ar
                     clear ao
                     clear HB
                     clear HR629
                     clear HR642
                     clear eI
                     have aj := n0_
                     have ar := n1_
                     have ao := n2_
                     have HB := n3_
                     have HR629 := n4_
                     have HR642 := n5_
                     have e7 := n6_
                     clear n0_ n1_ n2_ n3_ n4_ n5_ n6_
                     clear ho hb hg hat
                     refine hK.out _ _ ⟨(blk_cell ao.out 0).trans rfl, (blk_cell ao.out 1).trans rfl⟩ (fun hHeld => ?_)
                     clear hK K
                     refine norm_ (a' := ?_) ?_ ?_
                     rotate_left
                     ·show Act.put _ (some 50) _ = _
                      simp only [Act.put, List.setIfInBounds_toArray, List.set_cons_zero, List.set_cons_succ, i64_w, i32_w]
                      rfl
                     refine one_ (i := 6) (N := some 52) (N_ 13 1919) rfl rfl (one_of HT_.out (by kernel_rfl)) (by decide) (fun K hK => ?_)
                     refine Kd.R_lit_step k30 _ 30 ?hg (N := 52) ?hd (xs := ([(⟨((rd_T30 l0 ah).f0), ((rd_T30 l0 ah).f1)⟩ : S30)] : List (S30))) (inner := [.int .i64 ((rd_T30 l0 ah).f0), .int .i64 ((rd_T30 l0 ah).f1)]) (ok := fun _ => True) (okp := fun _ => True) ?hr ?hp (fun _ hk => hk) trivial (Below.refl _ _) (Nat.le_refl _) (by simp) ?_; (case hd => rfl); (case hg => rfl); (case hr => exact Z29); (case hp => exact (Reps.c2 (show Kd.M k30 _ _ _ (⟨((rd_T30 l0 ah).f0), ((rd_T30 l0 ah).f1)⟩ : S30) [.int .i64 ((rd_T30 l0 ah).f0), .int .i64 ((rd_T30 l0 ah).f1)] from (k30_mkM _ _ _ (⟨((rd_T30 l0 ah).f0), ((rd_T30 l0 ah).f1)⟩ : S30) )) (Reps.none _ _)))
                     intro ez pr ho54 hb hg_ hnew_
                     clear hg_ hnew_
                     (first | rw [← lT.out] at ho54 | (simp only [Int.reduceToNat] at ho54; rw [← lT.out] at ho54))
                     have n0_ := Aside0.mk (Kd.R_elder' (Z1 aj) (Kd.R_base ho54) hb)
                     have n1_ := Aside0.mk (Kd.R_elder' (Z1 ar) (Kd.R_base ho54) hb)
                     have n2_ := Aside0.mk (Kd.R_elder' (Z1 e7) (Kd.R_base ho54) hb)
                     have n3_ := Aside0.mk (Kd.R_lower (Kd.R_newB (Kd.R_new' (Kd.R_new' (Kd.R_new' ho54 (Yd_ aj)) (Yd_ ar)) (Yd_ e7)) (g := aq) (o := .cells #[.int .i64 ((rd_T30 l0 ah).f0), .int .i64 ((rd_T30 l0 ah).f1)] 30 (0, 0)) (Z6 ao)) (below_size (Z14)))
                     have n4_ := Aside0.mk (Ye_ ao)
                     have n5_ := Aside0.mk (Kd.C_below (Z11 HR629) hb)
                     have n6_ := Aside0.mk (Kd.C_below (Z11 HR642) hb)
                     have n7_ := Aside0.mk (below_step (Z14) hb)
                     clear aj
                     clear ar
                     clear e7
                     clear ao
                     clear HR629
                     clear HR642
                     clear HB
                     have aj := n0_
                     have ar := n1_
                     have e7 := n2_
                     have b5 := n3_
                     have ao := n4_
                     have HR629 := n5_
                     have HR642 := n6_
                     have HB := n7_
                     clear n0_ n1_ n2_ n3_ n4_ n5_ n6_ n7_
                     clear hb ho54
                     refine hK.out _ _ ⟨(blk_cell ao.out 0).trans rfl, (blk_cell ao.out 1).trans rfl⟩ (fun hHeld => ?_)
                     clear hK K
                     refine norm_ (a' := ?_) ?_ ?_
                     rotate_left
                     ·show Act.put _ (some 52) _ = _
                      simp only [Act.put, List.setIfInBounds_toArray, List.set_cons_zero, List.set_cons_succ, i64_w, i32_w]
                      rfl
                     exact norm_ (Z53) (hCont (n1, jJ, ez) _ ⟨hHeld, (Z65 e7), (Z152 b5), (Z84 aj), (Z84 ar), (Z6 ao), (Z14)⟩)
                    skip
                    refine Kd.R_lit_step k30 _ 30 ?hg (N := 52) ?hd (xs := ([(⟨((rd_T30 l0 ah).f0), ((rd_T30 l0 ah).f1)⟩ : S30)] : List (S30))) (inner := [.int .i64 ((rd_T30 l0 ah).f0), .int .i64 ((rd_T30 l0 ah).f1)]) (ok := fun _ => True) (okp := fun _ => True) ?hr ?hp (fun _ hk => hk) trivial (Below.refl _ _) (Nat.le_refl _) (by simp) ?_; (case hd => rfl); (case hg => rfl); (case hr => exact Z29); (case hp => exact (Reps.c2 (show Kd.M k30 _ _ _ (⟨((rd_T30 l0 ah).f0), ((rd_T30 l0 ah).f1)⟩ : S30) [.int .i64 ((rd_T30 l0 ah).f0), .int .i64 ((rd_T30 l0 ah).f1)] from (k30_mkM _ _ _ (⟨((rd_T30 l0 ah).f0), ((rd_T30 l0 ah).f1)⟩ : S30) )) (Reps.none _ _)))
                    intro ez rT ho53 hb hg_ hnew_
                    clear hg_ hnew_
                    (first | rw [← lT.out] at ho53 | (simp only [Int.reduceToNat] at ho53; rw [← lT.out] at ho53))
                    have n0_ := Aside0.mk (Kd.R_elder' (Z1 aj) (Kd.R_base ho53) hb)
                    have n1_ := Aside0.mk (Kd.R_elder' (Z1 ar) (Kd.R_base ho53) hb)
                    have n2_ := Aside0.mk (Kd.R_elder' (Z1 eI) (Kd.R_base ho53) hb)
                    have n3_ := Aside0.mk (Kd.R_lower (Kd.R_newB (Kd.R_new' (Kd.R_new' (Kd.R_new' ho53 (Yd_ aj)) (Yd_ ar)) (Yd_ eI)) (g := aq) (o := .cells #[.int .i64 ((rd_T30 l0 ah).f0), .int .i64 ((rd_T30 l0 ah).f1)] 30 (0, 0)) (Z6 ao)) (below_size (Z14)))
                    have n4_ := Aside0.mk (Ye_ ao)
                    have n5_ := Aside0.mk (Kd.C_below (Z11 HR629) hb)
                    have n6_ := Aside0.mk (Kd.C_below (Z11 HR642) hb)
                    have n7_ := Aside0.mk (below_step (Z14) hb)
                    clear aj
                    clear ar
                    clear eI
                    clear ao
                    clear HR629
                    clear HR642
                    clear HB
                    have aj := n0_
                    have ar := n1_
                    have eI := n2_
                    have b5 := n3_
                    have ao := n4_
                    have HR629 := n5_
                    have HR642 := n6_
                    have HB := n7_
                    clear n0_ n1_ n2_ n3_ n4_ n5_ n6_ n7_
                    clear hb ho53
                    refine hK.out _ _ ⟨(blk_cell ao.out 0).trans rfl, (blk_cell ao.out 1).trans rfl⟩ (fun hHeld => ?_)
                    clear hK K
                    refine norm_ (a' := ?_) ?_ ?_
                    rotate_left
                    ·show Act.put _ (some 52) _ = _
                     simp only [Act.put, List.setIfInBounds_toArray, List.set_cons_zero, List.set_cons_succ, i64_w, i32_w]
                     rfl
                    refine one_ (i := 4) (N := some 50) (N_ 13 1919) rfl rfl (one_of HT_.out (by kernel_rfl)) (by decide) (fun K hK => ?_)
                    refine Kd.R_append_rows_step k30 (w0 := w) w.heap.size (by rfl) (.tmp 46) (.tmp 49) 24 30 (.agg #[(.int .i64 0), (.int .i64 0)]) 16 rfl Tryz.underlying24 info30 rfl (by decide) (by omega) n1 iY dr _ _ _ (fun k_ => some k_ ≠ (u4 : Value).ownBlock ∧ some k_ ≠ (.slice cj ai.length ba : Value).ownBlock ∧ some k_ ≠ (ez : Value).ownBlock ∧ k_ ≠ aq) (fun _ => False) rfl rfl ?aO ?aR (fun _ _ h => h) (fun _ h => h.elim) ?aF ?aB ?aS ?aL ?_
                    (case aR => exact Z119)
                    (case aB => exact Z14)
                    (case aF => exact (fun k_ hk => ⟨Kd.fresh' (Yd_ aj) k_ hk, Kd.fresh' (Yd_ ar) k_ hk, Kd.fresh' (Yd_ b5) k_ hk, Kd.freshB (g := aq) (o := .cells #[.int .i64 ((rd_T30 l0 ah).f0), .int .i64 ((rd_T30 l0 ah).f1)] 30 (0, 0)) (Z6 ao) k_ hk⟩))
                    (case aO => exact (Z153 eI))
                    (case aS => exact (below_size (Z14)))
                    (case aL => exact Z76 tE)
                    intro jJ sx ho hb hg hat
                    rw [← tF.out] at ho
                    have n0_ := Aside0.mk (Kd.R_after (ok := (fun k_ => some k_ ≠ (.slice cj ai.length ba : Value).ownBlock ∧ some k_ ≠ (ez : Value).ownBlock ∧ k_ ≠ aq)) (Z47 aj) hg hat)
                    have n1_ := Aside0.mk (Kd.R_after (ok := (fun k_ => some k_ ≠ (u4 : Value).ownBlock ∧ some k_ ≠ (ez : Value).ownBlock ∧ k_ ≠ aq)) (Z47 ar) hg hat)
                    have n2_ := Aside0.mk (blk_grown (g := aq) (o := .cells #[.int .i64 ((rd_T30 l0 ah).f0), .int .i64 ((rd_T30 l0 ah).f1)] 30 (0, 0)) (Z6 ao) hg (Kd.R_away eI.out (fun _ hk => hk.1.2)))
                    have n3_ := Aside0.mk (Kd.R_after (ok := (fun k_ => some k_ ≠ (u4 : Value).ownBlock ∧ some k_ ≠ (.slice cj ai.length ba : Value).ownBlock ∧ k_ ≠ aq)) (Z154 b5) hg hat)
                    have n4_ := Aside0.mk (hb)
                    have n5_ := Aside0.mk ((show Kd.C k30 sx cj dr.length dr from by rw [iM.out]; exact Kd.C_take (m := (ax : Int).toNat) ((Kd.R_reads' (Kd.R_after (ok := (fun k_ => some k_ ≠ (u4 : Value).ownBlock ∧ some k_ ≠ (ez : Value).ownBlock ∧ k_ ≠ aq)) (Z47 ar) hg hat)).2.2) KL48.out))
                    have n6_ := Aside0.mk ((show Kd.C k30 sx zd ce.length ce from by rw [iN.out, rS.out]; exact Kd.C_drop (m := (ax : Int).toNat) (c := ba) ((Kd.R_reads' (Kd.R_after (ok := (fun k_ => some k_ ≠ (u4 : Value).ownBlock ∧ some k_ ≠ (ez : Value).ownBlock ∧ k_ ≠ aq)) (Z47 ar) hg hat)).2.2) KL49.out ((Kd.R_reads' (Kd.R_after (ok := (fun k_ => some k_ ≠ (u4 : Value).ownBlock ∧ some k_ ≠ (ez : Value).ownBlock ∧ k_ ≠ aq)) (Z47 ar) hg hat)).2.1)))
                    have n7_ := Aside0.mk (ho)
                    clear aj
                    clear ar
                    clear ao
                    clear b5
                    clear HB
                    clear HR629
                    clear HR642
                    clear eI
                    have aj := n0_
                    have ar := n1_
                    have ao := n2_
                    have b5 := n3_
                    have HB := n4_
                    have HR629 := n5_
                    have HR642 := n6_
                    have e7 := n7_
                    clear n0_ n1_ n2_ n3_ n4_ n5_ n6_ n7_
                    clear ho hb hg hat
                    refine hK.out _ _ ⟨(blk_cell ao.out 0).trans rfl, (blk_cell ao.out 1).trans rfl⟩ (fun hHeld => ?_)
                    clear hK K
                    refine norm_ (a' := ?_) ?_ ?_
                    rotate_left
                    ·show Act.put _ (some 50) _ = _
                     simp only [Act.put, List.setIfInBounds_toArray, List.set_cons_zero, List.set_cons_succ, i64_w, i32_w]
                     rfl
                    exact norm_ (Z53) (hCont (n1, jJ, ez) _ ⟨hHeld, (Z85 e7), (Z65 b5), (Z60 aj), (Z60 ar), (Z6 ao), (Z14)⟩)
                   skip
                   refine Kd.R_lit_step k30 _ 30 ?hg (N := 52) ?hd (xs := ([(⟨((rd_T30 l0 ah).f0), ((rd_T30 l0 ah).f1)⟩ : S30)] : List (S30))) (inner := [.int .i64 ((rd_T30 l0 ah).f0), .int .i64 ((rd_T30 l0 ah).f1)]) (ok := fun _ => True) (okp := fun _ => True) ?hr ?hp (fun _ hk => hk) trivial (Below.refl _ _) (Nat.le_refl _) (by simp) ?_; (case hd => rfl); (case hg => rfl); (case hr => exact Z29); (case hp => exact (Reps.c2 (show Kd.M k30 _ _ _ (⟨((rd_T30 l0 ah).f0), ((rd_T30 l0 ah).f1)⟩ : S30) [.int .i64 ((rd_T30 l0 ah).f0), .int .i64 ((rd_T30 l0 ah).f1)] from (k30_mkM _ _ _ (⟨((rd_T30 l0 ah).f0), ((rd_T30 l0 ah).f1)⟩ : S30) )) (Reps.none _ _)))
                   intro ez jI ho51 hb hg_ hnew_
                   clear hg_ hnew_
                   (first | rw [← lT.out] at ho51 | (simp only [Int.reduceToNat] at ho51; rw [← lT.out] at ho51))
                   have n0_ := Aside0.mk (Kd.R_elder' (Z1 aj) (Kd.R_base ho51) hb)
                   have n1_ := Aside0.mk (Kd.R_elder' (Z1 ar) (Kd.R_base ho51) hb)
                   have n2_ := Aside0.mk (Kd.R_lower (Kd.R_newB (Kd.R_new' (Kd.R_new' ho51 (Yd_ aj)) (Yd_ ar)) (g := aq) (o := .cells #[.int .i64 ((rd_T30 l0 ah).f0), .int .i64 ((rd_T30 l0 ah).f1)] 30 (0, 0)) (Z6 ao)) (below_size (Z14)))
                   have n3_ := Aside0.mk (Ye_ ao)
                   have n4_ := Aside0.mk (Kd.C_below (Z11 HR629) hb)
                   have n5_ := Aside0.mk (Kd.C_below (Z11 HR642) hb)
                   have n6_ := Aside0.mk (below_step (Z14) hb)
                   clear aj
                   clear ar
                   clear ao
                   clear HR629
                   clear HR642
                   clear HB
                   have aj := n0_
                   have ar := n1_
                   have b5 := n2_
                   have ao := n3_
                   have HR629 := n4_
                   have HR642 := n5_
                   have HB := n6_
                   clear n0_ n1_ n2_ n3_ n4_ n5_ n6_
                   clear hb ho51
                   refine hK.out _ _ ⟨(blk_cell ao.out 0).trans rfl, (blk_cell ao.out 1).trans rfl⟩ (fun hHeld => ?_)
                   clear hK K
                   refine norm_ (a' := ?_) ?_ ?_
                   rotate_left
                   ·show Act.put _ (some 52) _ = _
                    simp only [Act.put, List.setIfInBounds_toArray, List.set_cons_zero, List.set_cons_succ, i64_w, i32_w]
                    rfl
                   refine one_ (i := 0) (N := some 46) (N_ 13 1903) rfl rfl (one_of HT_.out (by kernel_rfl)) (by decide) (fun K hK => ?_)
                   refine Kd.R_lit_step k30 _ 30 ?hg (N := 46) ?hd (xs := ([] : List (S30))) (inner := []) (ok := fun _ => True) (okp := fun _ => True) ?hr ?hp (fun _ hk => hk) trivial (Below.refl _ _) (Nat.le_refl _) (by simp) ?_; (case hd => rfl); (case hg => rfl); (case hr => exact Z29); (case hp => exact (Reps.none _ _))
                   intro n1 rT ho53 hb hg_ hnew_
                   clear hg_ hnew_
                   (first | rw [← q0.out] at ho53 | (simp only [Int.reduceToNat] at ho53; rw [← q0.out] at ho53))
                   have n0_ := Aside0.mk (Kd.R_elder' (Z1 aj) (Kd.R_base ho53) hb)
                   have n1_ := Aside0.mk (Kd.R_elder' (Z1 ar) (Kd.R_base ho53) hb)
                   have n2_ := Aside0.mk (Kd.R_elder' (Z1 b5) (Kd.R_base ho53) hb)
                   have n3_ := Aside0.mk (Kd.R_lower (Kd.R_newB (Kd.R_new' (Kd.R_new' (Kd.R_new' ho53 (Yd_ aj)) (Yd_ ar)) (Yd_ b5)) (g := aq) (o := .cells #[.int .i64 ((rd_T30 l0 ah).f0), .int .i64 ((rd_T30 l0 ah).f1)] 30 (0, 0)) (Z6 ao)) (below_size (Z14)))
                   have n4_ := Aside0.mk (Ye_ ao)
                   have n5_ := Aside0.mk (Kd.C_below (Z11 HR629) hb)
                   have n6_ := Aside0.mk (Kd.C_below (Z11 HR642) hb)
                   have n7_ := Aside0.mk (below_step (Z14) hb)
                   clear aj
                   clear ar
                   clear b5
                   clear ao
                   clear HR629
                   clear HR642
                   clear HB
                   have aj := n0_
                   have ar := n1_
                   have b5 := n2_
                   have eI := n3_
                   have ao := n4_
                   have HR629 := n5_
                   have HR642 := n6_
                   have HB := n7_
                   clear n0_ n1_ n2_ n3_ n4_ n5_ n6_ n7_
                   clear hb ho53
                   refine hK.out _ _ ⟨(blk_cell ao.out 0).trans rfl, (blk_cell ao.out 1).trans rfl⟩ (fun hHeld => ?_)
                   clear hK K
                   refine norm_ (a' := ?_) ?_ ?_
                   rotate_left
                   ·show Act.put _ (some 46) _ = _
                    simp only [Act.put, List.setIfInBounds_toArray, List.set_cons_zero, List.set_cons_succ, i64_w, i32_w]
                    rfl
                   refine one_ (i := 4) (N := some 50) (N_ 13 1919) rfl rfl (one_of HT_.out (by kernel_rfl)) (by decide) (fun K hK => ?_)
                   refine Kd.R_append_rows_step k30 (w0 := w) w.heap.size (by rfl) (.tmp 46) (.tmp 49) 24 30 (.agg #[(.int .i64 0), (.int .i64 0)]) 16 rfl Tryz.underlying24 info30 rfl (by decide) (by omega) n1 iY dr _ _ _ (fun k_ => some k_ ≠ (u4 : Value).ownBlock ∧ some k_ ≠ (.slice cj ai.length ba : Value).ownBlock ∧ some k_ ≠ (ez : Value).ownBlock ∧ k_ ≠ aq) (fun _ => False) rfl rfl ?aO ?aR (fun _ _ h => h) (fun _ h => h.elim) ?aF ?aB ?aS ?aL ?_
                   (case aR => exact Z119)
                   (case aB => exact Z14)
                   (case aF => exact (fun k_ hk => ⟨Kd.fresh' (Yd_ aj) k_ hk, Kd.fresh' (Yd_ ar) k_ hk, Kd.fresh' (Yd_ b5) k_ hk, Kd.freshB (g := aq) (o := .cells #[.int .i64 ((rd_T30 l0 ah).f0), .int .i64 ((rd_T30 l0 ah).f1)] 30 (0, 0)) (Z6 ao) k_ hk⟩))
                   (case aO => exact (Z155 eI))
                   (case aS => exact (below_size (Z14)))
                   (case aL => exact Z76 tE)
                   intro jJ sx ho hb hg hat
                   rw [← tF.out] at ho
                   have n0_ := Aside0.mk (Kd.R_after (ok := (fun k_ => some k_ ≠ (.slice cj ai.length ba : Value).ownBlock ∧ some k_ ≠ (ez : Value).ownBlock ∧ k_ ≠ aq)) (Z48 aj) hg hat)
                   have n1_ := Aside0.mk (Kd.R_after (ok := (fun k_ => some k_ ≠ (u4 : Value).ownBlock ∧ some k_ ≠ (ez : Value).ownBlock ∧ k_ ≠ aq)) (Z48 ar) hg hat)
                   have n2_ := Aside0.mk (blk_grown (g := aq) (o := .cells #[.int .i64 ((rd_T30 l0 ah).f0), .int .i64 ((rd_T30 l0 ah).f1)] 30 (0, 0)) (Z6 ao) hg (Kd.R_away eI.out (fun _ hk => hk.2)))
                   have n3_ := Aside0.mk (Kd.R_after (ok := (fun k_ => some k_ ≠ (u4 : Value).ownBlock ∧ some k_ ≠ (.slice cj ai.length ba : Value).ownBlock ∧ k_ ≠ aq)) (Z156 b5) hg hat)
                   have n4_ := Aside0.mk (hb)
                   have n5_ := Aside0.mk ((show Kd.C k30 sx cj dr.length dr from by rw [iM.out]; exact Kd.C_take (m := (ax : Int).toNat) ((Kd.R_reads' (Kd.R_after (ok := (fun k_ => some k_ ≠ (u4 : Value).ownBlock ∧ some k_ ≠ (ez : Value).ownBlock ∧ k_ ≠ aq)) (Z48 ar) hg hat)).2.2) KL48.out))
                   have n6_ := Aside0.mk ((show Kd.C k30 sx zd ce.length ce from by rw [iN.out, rS.out]; exact Kd.C_drop (m := (ax : Int).toNat) (c := ba) ((Kd.R_reads' (Kd.R_after (ok := (fun k_ => some k_ ≠ (u4 : Value).ownBlock ∧ some k_ ≠ (ez : Value).ownBlock ∧ k_ ≠ aq)) (Z48 ar) hg hat)).2.2) KL49.out ((Kd.R_reads' (Kd.R_after (ok := (fun k_ => some k_ ≠ (u4 : Value).ownBlock ∧ some k_ ≠ (ez : Value).ownBlock ∧ k_ ≠ aq)) (Z48 ar) hg hat)).2.1)))
                   have n7_ := Aside0.mk (ho)
                   clear aj
                   clear ar
                   clear ao
                   clear b5
                   clear HB
                   clear HR629
                   clear HR642
                   clear eI
                   have aj := n0_
                   have ar := n1_
                   have ao := n2_
                   have b5 := n3_
                   have HB := n4_
                   have HR629 := n5_
                   have HR642 := n6_
                   have e7 := n7_
                   clear n0_ n1_ n2_ n3_ n4_ n5_ n6_ n7_
                   clear ho hb hg hat
                   refine hK.out _ _ ⟨(blk_cell ao.out 0).trans rfl, (blk_cell ao.out 1).trans rfl⟩ (fun hHeld => ?_)
                   clear hK K
                   refine norm_ (a' := ?_) ?_ ?_
                   rotate_left
                   ·show Act.put _ (some 50) _ = _
                    simp only [Act.put, List.setIfInBounds_toArray, List.set_cons_zero, List.set_cons_succ, i64_w, i32_w]
                    rfl
                   exact norm_ (Z53) (hCont (n1, jJ, ez) _ ⟨hHeld, (Z85 e7), (Z65 b5), (Z60 aj), (Z60 ar), (Z6 ao), (Z14)⟩)
                  rintro ⟨n1, jJ, ez⟩ rU ⟨hS_, h0_, h1_, h2_, h3_, h4_, h5_⟩
                  have n0_ : Aside0 (Kd.R k30 30 rU w.heap.size (fun k_ => some k_ ≠ (ez : Value).ownBlock ∧ some k_ ≠ (u4 : Value).ownBlock ∧ some k_ ≠ (.slice cj ai.length ba : Value).ownBlock ∧ k_ ≠ aq) jJ fQ) := ⟨h0_⟩
                  have n1_ : Aside0 (Kd.R k30 30 rU w.heap.size (fun k_ => some k_ ≠ (jJ : Value).ownBlock ∧ some k_ ≠ (u4 : Value).ownBlock ∧ some k_ ≠ (.slice cj ai.length ba : Value).ownBlock ∧ k_ ≠ aq) ez cX) := ⟨h1_⟩
                  have n2_ : Aside0 (Kd.R k30 30 rU w.heap.size (fun k_ => some k_ ≠ (jJ : Value).ownBlock ∧ some k_ ≠ (ez : Value).ownBlock ∧ some k_ ≠ (.slice cj ai.length ba : Value).ownBlock ∧ k_ ≠ aq) u4 aw) := ⟨h2_⟩
                  have n3_ : Aside0 (Kd.R k30 30 rU w.heap.size (fun k_ => some k_ ≠ (jJ : Value).ownBlock ∧ some k_ ≠ (ez : Value).ownBlock ∧ some k_ ≠ (u4 : Value).ownBlock ∧ k_ ≠ aq) (.slice cj ai.length ba) ai) := ⟨h3_⟩
                  have n4_ : Aside0 (rU.heap[aq]? = some (.cells #[.int .i64 ((rd_T30 l0 ah).f0), .int .i64 ((rd_T30 l0 ah).f1)] 30 (0, 0))) := ⟨h4_⟩
                  have n5_ : Aside0 (Below w.heap.size w rU) := ⟨h5_⟩
                  clear aj
                  clear ar
                  clear ao
                  clear HB
                  clear h0_ h1_ h2_ h3_ h4_ h5_
                  have e7 := n0_
                  have b5 := n1_
                  have aj := n2_
                  have ar := n3_
                  have ao := n4_
                  have HB := n5_
                  clear n0_ n1_ n2_ n3_ n4_ n5_
                  have hHeld : rU.cell? ⟨aq, 0, none⟩ = some (.int .i64 ((rd_T30 l0 ah).f0)) ∧ rU.cell? ⟨aq, 1, none⟩ = some (.int .i64 ((rd_T30 l0 ah).f1)) := hS_
                  have n_ := Aside0.mk (show Kd.C k30 _ cj dr.length dr from by rw [iM.out]; exact Kd.C_take (m := (ax : Int).toNat) ((Kd.R_reads' ar.out).2.2) KL48.out)
                  (try clear HR629)
                  have HR629 := n_
                  clear n_
                  have n_ := Aside0.mk (show Kd.C k30 _ zd ce.length ce from by rw [iN.out, rS.out]; exact Kd.C_drop (m := (ax : Int).toNat) (c := ba) ((Kd.R_reads' ar.out).2.2) KL49.out ((Kd.R_reads' ar.out).2.1))
                  (try clear HR642)
                  have HR642 := n_
                  clear n_
                  obtain ⟨iZ, i1, Bk⟩ := Kd.R_slice b5.out
                  (first | subst Bk | (injection Bk with f1_ f2_ f3_; have f4_ := f1_.symm; have f5_ := f3_.symm; clear f1_ f2_ f3_; subst f4_; subst f5_))
                  refine norm_ (a' := ?_) ?_ ?_
                  rotate_left
                  ·simp only [putAll, Act.put, List.setIfInBounds_toArray, List.set_cons_zero, List.set_cons_succ]
                   rfl
                  refine one_ (i := 7) (N := some 53) (M_ 11 2) rfl rfl (one_of HT_.out (by kernel_rfl)) (by decide) (fun K hK => ?_)
                  refine Kd.R_append_rows_step k30 (w0 := w) w.heap.size (by rfl) (.tmp 50) (.tmp 52) 24 30 (.agg #[(.int .i64 0), (.int .i64 0)]) 16 rfl Tryz.underlying24 info30 rfl (by decide) (by omega) jJ fQ cX _ _ _ (fun k_ => some k_ ≠ (u4 : Value).ownBlock ∧ some k_ ≠ (.slice cj ai.length ba : Value).ownBlock ∧ some k_ ≠ (.slice iZ cX.length i1 : Value).ownBlock ∧ k_ ≠ aq) (fun _ => False) rfl rfl ?aO ?aR (fun _ _ h => h) (fun _ h => h.elim) ?aF ?aB ?aS ?aL ?_
                  (case aR => exact Z5 b5)
                  (case aB => exact Z14)
                  (case aF => exact (fun k_ hk => ⟨Kd.fresh' (Yd_ aj) k_ hk, Kd.fresh' (Yd_ ar) k_ hk, Kd.fresh' (Yd_ b5) k_ hk, Kd.freshB (g := aq) (o := .cells #[.int .i64 ((rd_T30 l0 ah).f0), .int .i64 ((rd_T30 l0 ah).f1)] 30 (0, 0)) (Z6 ao) k_ hk⟩))
                  (case aO => exact (Z157 e7))
                  (case aS => exact (below_size (Z14)))
                  (case aL => exact Z76 LMc42)
                  intro v637 eY ho hb hg hat
                  rw [← Ny636.out] at ho
                  have n0_ := Aside0.mk (Kd.R_after (ok := (fun k_ => some k_ ≠ (.slice cj ai.length ba : Value).ownBlock ∧ some k_ ≠ (.slice iZ cX.length i1 : Value).ownBlock ∧ k_ ≠ aq)) (Z49 aj) hg hat)
                  have n1_ := Aside0.mk (Kd.R_after (ok := (fun k_ => some k_ ≠ (u4 : Value).ownBlock ∧ some k_ ≠ (.slice iZ cX.length i1 : Value).ownBlock ∧ k_ ≠ aq)) (Z49 ar) hg hat)
                  have n2_ := Aside0.mk (blk_grown (g := aq) (o := .cells #[.int .i64 ((rd_T30 l0 ah).f0), .int .i64 ((rd_T30 l0 ah).f1)] 30 (0, 0)) (Z6 ao) hg (Kd.R_away e7.out (fun _ hk => hk.2.2.2)))
                  have n3_ := Aside0.mk (Kd.R_after (ok := (fun k_ => some k_ ≠ (u4 : Value).ownBlock ∧ some k_ ≠ (.slice cj ai.length ba : Value).ownBlock ∧ k_ ≠ aq)) (Z158 b5) hg hat)
                  have n4_ := Aside0.mk (hb)
                  have n5_ := Aside0.mk ((show Kd.C k30 eY cj dr.length dr from by rw [iM.out]; exact Kd.C_take (m := (ax : Int).toNat) ((Kd.R_reads' (Kd.R_after (ok := (fun k_ => some k_ ≠ (u4 : Value).ownBlock ∧ some k_ ≠ (.slice iZ cX.length i1 : Value).ownBlock ∧ k_ ≠ aq)) (Z49 ar) hg hat)).2.2) KL48.out))
                  have n6_ := Aside0.mk ((show Kd.C k30 eY zd ce.length ce from by rw [iN.out, rS.out]; exact Kd.C_drop (m := (ax : Int).toNat) (c := ba) ((Kd.R_reads' (Kd.R_after (ok := (fun k_ => some k_ ≠ (u4 : Value).ownBlock ∧ some k_ ≠ (.slice iZ cX.length i1 : Value).ownBlock ∧ k_ ≠ aq)) (Z49 ar) hg hat)).2.2) KL49.out ((Kd.R_reads' (Kd.R_after (ok := (fun k_ => some k_ ≠ (u4 : Value).ownBlock ∧ some k_ ≠ (.slice iZ cX.length i1 : Value).ownBlock ∧ k_ ≠ aq)) (Z49 ar) hg hat)).2.1)))
                  have n7_ := Aside0.mk (ho)
                  clear aj
                  clear ar
                  clear ao
                  clear b5
                  clear HB
                  clear HR629
                  clear HR642
                  clear e7
                  have aj := n0_
                  have ar := n1_
                  have ao := n2_
                  have b5 := n3_
                  have HB := n4_
                  have HR629 := n5_
                  have HR642 := n6_
                  have tH := n7_
                  clear n0_ n1_ n2_ n3_ n4_ n5_ n6_ n7_
                  clear ho hb hg hat
                  refine hK.out _ _ ⟨(blk_cell ao.out 0).trans rfl, (blk_cell ao.out 1).trans rfl⟩ (fun hHeld => ?_)
                  clear hK K
                  refine norm_ (a' := ?_) ?_ ?_
                  rotate_left
                  ·show Act.put _ (some 53) _ = _
                   simp only [Act.put, List.setIfInBounds_toArray, List.set_cons_zero, List.set_cons_succ, i64_w, i32_w]
                   rfl
                  refine one_ (i := 11) (N := some 57) (M_ 12 1) rfl rfl (one_of HT_.out (by kernel_rfl)) (by decide) (fun K hK => ?_)
                  refine Kd.R_append_rows_step k30 (w0 := w) w.heap.size (by rfl) (.tmp 53) (.tmp 56) 24 30 (.agg #[(.int .i64 0), (.int .i64 0)]) 16 rfl Tryz.underlying24 info30 rfl (by decide) (by omega) v637 ex ce _ _ _ (fun k_ => some k_ ≠ (u4 : Value).ownBlock ∧ some k_ ≠ (.slice cj ai.length ba : Value).ownBlock ∧ some k_ ≠ (.slice iZ cX.length i1 : Value).ownBlock ∧ k_ ≠ aq) (fun _ => False) rfl rfl ?aO ?aR (fun _ _ h => h) (fun _ h => h.elim) ?aF ?aB ?aS ?aL ?_
                  (case aR => repeat (first | exact (Z11 HR642) | (with_reducible refine Kd.C_alloc ?_ _) | (with_reducible refine Kd.C_drewN ?_ _) | (with_reducible refine Kd.C_drew ?_)))
                  (case aB => exact Z14)
                  (case aF => exact (fun k_ hk => ⟨Kd.fresh' (Yd_ aj) k_ hk, Kd.fresh' (Yd_ ar) k_ hk, Kd.fresh' (Yd_ b5) k_ hk, Kd.freshB (g := aq) (o := .cells #[.int .i64 ((rd_T30 l0 ah).f0), .int .i64 ((rd_T30 l0 ah).f1)] 30 (0, 0)) (Z6 ao) k_ hk⟩))
                  (case aO => exact (Z1 tH))
                  (case aS => exact (below_size (Z14)))
                  (case aL => exact Z76 LMc45)
                  intro v644 el ho hb hg hat
                  rw [← Ny643.out] at ho
                  have n0_ := Aside0.mk (Kd.R_after (ok := (fun k_ => some k_ ≠ (.slice cj ai.length ba : Value).ownBlock ∧ some k_ ≠ (.slice iZ cX.length i1 : Value).ownBlock ∧ k_ ≠ aq)) (Z1 aj) hg hat)
                  have n1_ := Aside0.mk (Kd.R_after (ok := (fun k_ => some k_ ≠ (u4 : Value).ownBlock ∧ some k_ ≠ (.slice iZ cX.length i1 : Value).ownBlock ∧ k_ ≠ aq)) (Z1 ar) hg hat)
                  have n2_ := Aside0.mk (blk_grown (g := aq) (o := .cells #[.int .i64 ((rd_T30 l0 ah).f0), .int .i64 ((rd_T30 l0 ah).f1)] 30 (0, 0)) (Z6 ao) hg (Kd.R_away tH.out (fun _ hk => hk.2.2.2)))
                  have n3_ := Aside0.mk (Kd.R_after (ok := (fun k_ => some k_ ≠ (u4 : Value).ownBlock ∧ some k_ ≠ (.slice cj ai.length ba : Value).ownBlock ∧ k_ ≠ aq)) (Z1 b5) hg hat)
                  have n4_ := Aside0.mk (hb)
                  have n5_ := Aside0.mk ((show Kd.C k30 el cj dr.length dr from by rw [iM.out]; exact Kd.C_take (m := (ax : Int).toNat) ((Kd.R_reads' (Kd.R_after (ok := (fun k_ => some k_ ≠ (u4 : Value).ownBlock ∧ some k_ ≠ (.slice iZ cX.length i1 : Value).ownBlock ∧ k_ ≠ aq)) (Z1 ar) hg hat)).2.2) KL48.out))
                  have n6_ := Aside0.mk ((show Kd.C k30 el zd ce.length ce from by rw [iN.out, rS.out]; exact Kd.C_drop (m := (ax : Int).toNat) (c := ba) ((Kd.R_reads' (Kd.R_after (ok := (fun k_ => some k_ ≠ (u4 : Value).ownBlock ∧ some k_ ≠ (.slice iZ cX.length i1 : Value).ownBlock ∧ k_ ≠ aq)) (Z1 ar) hg hat)).2.2) KL49.out ((Kd.R_reads' (Kd.R_after (ok := (fun k_ => some k_ ≠ (u4 : Value).ownBlock ∧ some k_ ≠ (.slice iZ cX.length i1 : Value).ownBlock ∧ k_ ≠ aq)) (Z1 ar) hg hat)).2.1)))
                  have n7_ := Aside0.mk (ho)
                  clear aj
                  clear ar
                  clear ao
                  clear b5
                  clear HB
                  clear HR629
                  clear HR642
                  clear tH
                  have aj := n0_
                  have ar := n1_
                  have ao := n2_
                  have b5 := n3_
                  have HB := n4_
                  have HR629 := n5_
                  have HR642 := n6_
                  have HO645 := n7_
                  clear n0_ n1_ n2_ n3_ n4_ n5_ n6_ n7_
                  clear ho hb hg hat
                  refine hK.out _ _ ⟨(blk_cell ao.out 0).trans rfl, (blk_cell ao.out 1).trans rfl⟩ (fun hHeld => ?_)
                  clear hK K
                  refine norm_ (a' := ?_) ?_ ?_
                  rotate_left
                  ·show Act.put _ (some 57) _ = _
                   simp only [Act.put, List.setIfInBounds_toArray, List.set_cons_zero, List.set_cons_succ, i64_w, i32_w]
                   rfl
                  refine pu_ 12 7 (M_ 13 0) ?_
                  refine done_ (done_of HT_.out (by kernel_rfl)) ?_
                  try go_wp2
                  go_roundg k3
                  case measure => have := HK1.out; have := HK2.out; have := HK3.out; omega
                  case rel => exact ⟨(Bi), (wrap64 (ah + 1)), (Z16), H', ⟨Z81⟩, ⟨Z26 aj⟩, ⟨Z104 HO645⟩, ⟨Z14⟩⟩
                 rw [if_neg c45] at H
                 exact absurd H (by simp)
                rw [if_neg c42] at H
                exact absurd H (by simp)
               rw [if_neg c41] at H
               exact absurd H (by simp)
              rw [if_neg c40] at H
              exact absurd H (by simp)
             rw [if_neg c39] at H
             exact absurd H (by simp)
          rw [if_neg c9] at H
          have iX : (((rd_T30 l0 ah).f1) == aQ) = false := beq_eq_false_iff_ne.mpr c9
          have pX : (((rd_T30 l0 ah).f1) != aQ) = true := bne_iff_ne.mpr c9
          have H' := Aside0.mk H
          clear H
          have mH : 0 ≤ (ah : Int) := of_decide_eq_true (Z4)
          have mI : ah < (l0.length : Int) := of_decide_eq_true (Z4)
          obtain ⟨ad597, e597, ee, ef⟩ := at_T30 HR0.out ah mH mI
          cases e597
          replace ee := (HB.out.cell (World.block_lt_of_cell? w _ ee)).trans ee
          replace ef := (HB.out.cell (World.block_lt_of_cell? w _ ef)).trans ef
          replace mH := eq_true mH
          replace mI := eq_true mI
          go_wp2_with ((with_reducible refine gate_dst (N := 9) rfl ?_); refine bv_ 9 30 #[.int .i64 0, .int .i64 0] ?_; intro aq hg DU hbox hb; refine k6_ (Kd.R_below (Kd.R_elderB (Z1 aj) aq (Nat.le_of_eq hg.symm)) hb) (Kd.R_below (Kd.R_elderB (Z1 ar) aq (Nat.le_of_eq hg.symm)) hb) (below_step (Z2) hb) (hbox) ((Z38 : w.heap.size ≤ aq)) ((Z38 : w.heap.size ≤ aq)) ?_; clear aj ar HB; intro aj ar HB ao GW598 wH; clear hb hbox hg; obtain ⟨hcz60_0, hcz60_1, hfz60_0, hfz60_1⟩ := bx2_ (w := DU) ao.out)
          go_roundg k2
          case measure => have := HK1.out; have := HK2.out; omega
          case rel => exact ⟨(ai), (wrap64 (ah + 1)), (Z16), H', ⟨Z115 HK1⟩, ⟨Z111 aj⟩, ⟨Z111 ar⟩, ⟨Z14⟩⟩
         rw [if_neg c8] at H
         exact absurd H (by simp)
        rw [if_neg c7] at H
        exact absurd H (by simp)
       rw [if_neg c6] at H
       have iq : decide (ah < (l0.length : Int)) = false := decide_eq_false c6
       clear c6
       have H' := Aside0.mk H
       clear H
       obtain ⟨vO, n2, ze⟩ := Kd.R_slice ar.out
       subst ze
       go_wp2
       go_loopg [4, 61] k2 (fun kq v4 v61 w' => ∃ (f3 : List (S30)) (bG : Int), v61 = .int .i64 bG ∧ Aside0 (spec_RowOrder.l3 kq l0 f3 cq aQ ai (ai.length : Int) bG = some (r1, r2)) ∧ Aside0 (kq ≤ k2) ∧ Aside0 (Kd.R k30 30 w' w.heap.size (fun k_ => some k_ ≠ ((.slice vO ai.length n2) : Value).ownBlock) v4 f3) ∧ Aside0 (Kd.R k30 30 w' w.heap.size (fun k_ => some k_ ≠ (v4 : Value).ownBlock) (.slice vO ai.length n2) ai) ∧ Aside0 (Below w.heap.size w w'))
       case atStart => exact ⟨(aw), (0), (Z16), H', ⟨Nat.le_refl _⟩, ⟨Z1 aj⟩, ⟨Z1 ar⟩, ⟨Z2⟩⟩
       case round =>
        clear H'
        (try clear c4); (try clear q4); (try clear p5); (try clear q5); (try clear hx5); (try clear c6); (try clear iq); (try clear p6); (try clear c7); (try clear c8); (try clear c9); (try clear iX); (try clear pX); (try clear c39); (try clear c40); (try clear c41); (try clear c42); (try clear c45); (try clear De); (try clear c49); (try clear Df); (try clear p59); (try clear q59); (try clear hx59); (try clear hcz60_0); (try clear hcz60_1); (try clear hfz60_0); (try clear hfz60_1); (try clear ee); (try clear ef); (try clear mH); (try clear Bj); (try clear mI)
        obtain ⟨f3, bG, rfl, HA, HK3, aj, ar, HB⟩ := hrel
        cases gk with
        | zero => exact absurd HA.out (by simp [spec_RowOrder.l3])
        | succ k3 =>
         have H := HA.out
         clear HA
         simp only [spec_RowOrder.l3] at H
         by_cases c62 : bG < (ai.length : Int)
         ·rw [if_pos c62] at H
          have tI : decide (bG < (ai.length : Int)) = true := decide_eq_true c62
          clear c62
          by_cases c63 : cq = true
          ·subst c63
           rw [if_pos rfl] at H
           obtain ⟨eg, hji64⟩ : ∃ j_ : Int, (wrap64 ((wrap64 ((ai.length : Int) - 1)) - bG)) = j_ := ⟨_, rfl⟩
           replace H : (if 0 ≤ (eg) then (if (eg) < (ai.length : Int) then ((some (([(⟨(rd_T30 ai (eg)).f0, (rd_T30 ai (eg)).f1⟩ : S30)] : List (S30)) : List (S30))).bind fun iv => (if f3.length + iv.length < 8796093022208 then (spec_RowOrder.l3 k3 l0 (f3 ++ iv) true aQ ai (ai.length : Int) (wrap64 (bG + 1))) else (none))) else (none)) else (none)) = some (r1, r2) := by first | (rw [hji64] at H; exact H) | (simp only [hji64] at H ⊢; exact H)
           have hji64w : (IntKind.i64.wrap ((wrap64 ((ai.length : Int) - 1)) - bG)) = eg := (i64_w _).trans hji64
           by_cases c65 : 0 ≤ (eg)
           ·rw [if_pos c65] at H
            have c65b0 : decide (0 ≤ (eg)) = true := decide_eq_true c65
            clear c65
            by_cases c66 : (eg) < (ai.length : Int)
            ·rw [if_pos c66] at H
             have c66b0 : decide ((eg) < (ai.length : Int)) = true := decide_eq_true c66
             clear c66
             obtain ⟨iv, n3⟩ : ∃ y_ : List (S30), y_ = (([(⟨(rd_T30 ai (eg)).f0, (rd_T30 ai (eg)).f1⟩ : S30)] : List (S30))) := ⟨_, rfl⟩
             replace H : (if f3.length + iv.length < 8796093022208 then (spec_RowOrder.l3 k3 l0 (f3 ++ iv) true aQ ai (ai.length : Int) (wrap64 (bG + 1))) else (none)) = some (r1, r2) := by first | (rw [n3]; with_reducible exact H) | (have H2_ := (Option.bind_some _ _).symm.trans H; rw [n3]; with_reducible exact H2_) | (have H2_ := (Option.bind_some _ _).symm.trans H; with_reducible exact H2_) | with_reducible exact H | (rw [n3]; exact H) | exact H
             have xg := Aside0.mk n3
             clear n3
             by_cases c67 : f3.length + iv.length < 8796093022208
             ·rw [if_pos c67] at H
              have LMc67 := Aside0.mk c67
              clear c67
              obtain ⟨Bl, n4⟩ : ∃ y_ : List (S30), y_ = (f3 ++ iv) := ⟨_, rfl⟩
              replace H : (spec_RowOrder.l3 k3 l0 Bl true aQ ai (ai.length : Int) (wrap64 (bG + 1))) = some (r1, r2) := by first | (rw [n4]; with_reducible exact H) | (have H2_ := (Option.bind_some _ _).symm.trans H; rw [n4]; with_reducible exact H2_) | (have H2_ := (Option.bind_some _ _).symm.trans H; with_reducible exact H2_) | with_reducible exact H | (rw [n4]; exact H) | exact H
              have Ny650 := Aside0.mk n4
              clear n4
              have H' := Aside0.mk H
              clear H
              have zf : 0 ≤ ((eg) : Int) := of_decide_eq_true (Z4)
              have zg : (eg) < (ai.length : Int) := of_decide_eq_true (Z4)
              obtain ⟨xh, e646, hx646_0, hx646_1⟩ := at_T30 (Kd.R_reads' ar.out).2.2 (eg) zf zg
              cases e646
              replace zf := eq_true zf
              replace zg := eq_true zg
              go_wp2_with (first | ((with_reducible refine gate_dst (N := 74) rfl ?_); refine Kd.R_lit k30 _ 30 ?hg (N := 74) ?hd (xs := ([(⟨(rd_T30 ai (eg)).f0, (rd_T30 ai (eg)).f1⟩ : S30)] : List (S30))) (inner := [.int .i64 ((rd_T30 ai (eg)).f0), .int .i64 ((rd_T30 ai (eg)).f1)]) (ok := fun _ => True) (okp := fun _ => True) ?hr ?hp (fun _ hk => hk) trivial (Below.refl _ _) (Nat.le_refl _) (by simp) ?_; (case hd => rfl); (case hg => rfl); (case hr => exact Z29); (case hp => exact (Reps.c2 (show Kd.M k30 _ _ _ (⟨(rd_T30 ai (eg)).f0, (rd_T30 ai (eg)).f1⟩ : S30) [.int .i64 ((rd_T30 ai (eg)).f0), .int .i64 ((rd_T30 ai (eg)).f1)] from (k30_mkM _ _ _ (⟨(rd_T30 ai (eg)).f0, (rd_T30 ai (eg)).f1⟩ : S30) )) (Reps.none _ _))); intro v648 ev ho69 hb hg_ hnew_; clear hg_ hnew_; (first | rw [← xg.out] at ho69 | (simp only [Int.reduceToNat] at ho69; rw [← xg.out] at ho69)); refine k4_ (Kd.R_elder' (Z1 aj) (Kd.R_base ho69) hb) (Kd.R_elder' (Z1 ar) (Kd.R_base ho69) hb) (Kd.R_lower (Kd.R_new' (Kd.R_new' ho69 (Yd_ aj)) (Yd_ ar)) (below_size (Z2))) (below_step (Z2) hb) ?_; clear aj ar HB; intro aj ar lU HB; clear hb ho69; obtain ⟨Bm, Bn, eo71⟩ := Kd.R_slice lU.out; subst eo71) | ((with_reducible refine gate_builtin (b := .append) (xs := #[.tmp 65, .tmp 74]) rfl ?_); at_builtin; refine Kd.R_append_rows k30 (w0 := w) w.heap.size rfl (.tmp 65) (.tmp 74) 24 30 (.agg #[(.int .i64 0), (.int .i64 0)]) 16 rfl Tryz.underlying24 info30 rfl (by decide) (by omega) u4 f3 iv _ _ _ (fun k_ => some k_ ≠ (.slice (some xh) ai.length n2 : Value).ownBlock ∧ some k_ ≠ (.slice Bm iv.length Bn : Value).ownBlock) (fun _ => False) rfl rfl ?aO ?aR (fun _ _ h => h) (fun _ h => h.elim) ?aF ?aB ?aS ?aL ?_; (case aR => exact Z5 lU); (case aB => exact Z2); (case aF => exact (fun k_ hk => ⟨Kd.fresh' (Yd_ ar) k_ hk, Kd.fresh' (Yd_ lU) k_ hk⟩)); (case aO => exact (Z1 aj)); (case aS => exact (below_size (Z2))); (case aL => exact Z76 LMc67); intro v651 sy ho hb hg hat; rw [← Ny650.out] at ho; refine k4_ (Kd.R_after (ok := (fun k_ => some k_ ≠ (.slice Bm iv.length Bn : Value).ownBlock)) (Z71 ar) hg hat) (Kd.R_after (ok := (fun k_ => some k_ ≠ (.slice (some xh) ai.length n2 : Value).ownBlock)) (Z101 lU) hg hat) (hb) (ho) ?_; clear ar lU HB aj; intro ar lU HB HO652; clear ho hb hg hat))
              go_roundg k3
              case measure => have := HK1.out; have := HK2.out; have := HK3.out; omega
              case rel => exact ⟨(Bl), (wrap64 (bG + 1)), (Z16), H', ⟨Z81⟩, ⟨Z104 HO652⟩, ⟨Z26 ar⟩, ⟨Z2⟩⟩
             rw [if_neg c67] at H
             exact absurd H (by simp)
            rw [if_neg c66] at H
            exact absurd H (by simp)
           rw [if_neg c65] at H
           exact absurd H (by simp)
          replace c63 := Bool.eq_false_iff.mpr c63
          subst c63
          rw [if_neg (show ¬ (false = true) by decide)] at H
          by_cases c72 : 0 ≤ bG
          ·rw [if_pos c72] at H
           have c72b0 : decide (0 ≤ bG) = true := decide_eq_true c72
           clear c72
           by_cases c73 : bG < (ai.length : Int)
           ·rw [if_pos c73] at H
            have c73b0 : decide (bG < (ai.length : Int)) = true := decide_eq_true c73
            clear c73
            obtain ⟨lF, n5⟩ : ∃ y_ : List (S30), y_ = (([(⟨(rd_T30 ai bG).f0, (rd_T30 ai bG).f1⟩ : S30)] : List (S30))) := ⟨_, rfl⟩
            replace H : (if f3.length + lF.length < 8796093022208 then (spec_RowOrder.l3 k3 l0 (f3 ++ lF) false aQ ai (ai.length : Int) (wrap64 (bG + 1))) else (none)) = some (r1, r2) := by first | (rw [n5]; with_reducible exact H) | (have H2_ := (Option.bind_some _ _).symm.trans H; rw [n5]; with_reducible exact H2_) | (have H2_ := (Option.bind_some _ _).symm.trans H; with_reducible exact H2_) | with_reducible exact H | (rw [n5]; exact H) | exact H
            have xi := Aside0.mk n5
            clear n5
            by_cases c74 : f3.length + lF.length < 8796093022208
            ·rw [if_pos c74] at H
             have LMc74 := Aside0.mk c74
             clear c74
             obtain ⟨Bo, n6⟩ : ∃ y_ : List (S30), y_ = (f3 ++ lF) := ⟨_, rfl⟩
             replace H : (spec_RowOrder.l3 k3 l0 Bo false aQ ai (ai.length : Int) (wrap64 (bG + 1))) = some (r1, r2) := by first | (rw [n6]; with_reducible exact H) | (have H2_ := (Option.bind_some _ _).symm.trans H; rw [n6]; with_reducible exact H2_) | (have H2_ := (Option.bind_some _ _).symm.trans H; with_reducible exact H2_) | with_reducible exact H | (rw [n6]; exact H) | exact H
             have Ny657 := Aside0.mk n6
             clear n6
             have H' := Aside0.mk H
             clear H
             have zh : 0 ≤ (bG : Int) := of_decide_eq_true (Z4)
             have zi : bG < (ai.length : Int) := of_decide_eq_true (Z4)
             obtain ⟨xj, e653, hx653_0, hx653_1⟩ := at_T30 (Kd.R_reads' ar.out).2.2 bG zh zi
             cases e653
             replace zh := eq_true zh
             replace zi := eq_true zi
             go_wp2_with (first | ((with_reducible refine gate_dst (N := 81) rfl ?_); refine Kd.R_lit k30 _ 30 ?hg (N := 81) ?hd (xs := ([(⟨(rd_T30 ai bG).f0, (rd_T30 ai bG).f1⟩ : S30)] : List (S30))) (inner := [.int .i64 ((rd_T30 ai bG).f0), .int .i64 ((rd_T30 ai bG).f1)]) (ok := fun _ => True) (okp := fun _ => True) ?hr ?hp (fun _ hk => hk) trivial (Below.refl _ _) (Nat.le_refl _) (by simp) ?_; (case hd => rfl); (case hg => rfl); (case hr => exact Z29); (case hp => exact (Reps.c2 (show Kd.M k30 _ _ _ (⟨(rd_T30 ai bG).f0, (rd_T30 ai bG).f1⟩ : S30) [.int .i64 ((rd_T30 ai bG).f0), .int .i64 ((rd_T30 ai bG).f1)] from (k30_mkM _ _ _ (⟨(rd_T30 ai bG).f0, (rd_T30 ai bG).f1⟩ : S30) )) (Reps.none _ _))); intro v655 w75 ho76 hb hg_ hnew_; clear hg_ hnew_; (first | rw [← xi.out] at ho76 | (simp only [Int.reduceToNat] at ho76; rw [← xi.out] at ho76)); refine k4_ (Kd.R_elder' (Z1 aj) (Kd.R_base ho76) hb) (Kd.R_elder' (Z1 ar) (Kd.R_base ho76) hb) (Kd.R_lower (Kd.R_new' (Kd.R_new' ho76 (Yd_ aj)) (Yd_ ar)) (below_size (Z2))) (below_step (Z2) hb) ?_; clear aj ar HB; intro aj ar lV HB; clear hb ho76; obtain ⟨Bp, Bq, eo78⟩ := Kd.R_slice lV.out; subst eo78) | ((with_reducible refine gate_builtin (b := .append) (xs := #[.tmp 76, .tmp 81]) rfl ?_); at_builtin; refine Kd.R_append_rows k30 (w0 := w) w.heap.size rfl (.tmp 76) (.tmp 81) 24 30 (.agg #[(.int .i64 0), (.int .i64 0)]) 16 rfl Tryz.underlying24 info30 rfl (by decide) (by omega) u4 f3 lF _ _ _ (fun k_ => some k_ ≠ (.slice (some xj) ai.length n2 : Value).ownBlock ∧ some k_ ≠ (.slice Bp lF.length Bq : Value).ownBlock) (fun _ => False) rfl rfl ?aO ?aR (fun _ _ h => h) (fun _ h => h.elim) ?aF ?aB ?aS ?aL ?_; (case aR => exact Z5 lV); (case aB => exact Z2); (case aF => exact (fun k_ hk => ⟨Kd.fresh' (Yd_ ar) k_ hk, Kd.fresh' (Yd_ lV) k_ hk⟩)); (case aO => exact (Z1 aj)); (case aS => exact (below_size (Z2))); (case aL => exact Z76 LMc74); intro v658 w77 ho hb hg hat; rw [← Ny657.out] at ho; refine k4_ (Kd.R_after (ok := (fun k_ => some k_ ≠ (.slice Bp lF.length Bq : Value).ownBlock)) (Z71 ar) hg hat) (Kd.R_after (ok := (fun k_ => some k_ ≠ (.slice (some xj) ai.length n2 : Value).ownBlock)) (Z101 lV) hg hat) (hb) (ho) ?_; clear ar lV HB aj; intro ar lV HB HO659; clear ho hb hg hat))
             go_roundg k3
             case measure => have := HK1.out; have := HK2.out; have := HK3.out; omega
             case rel => exact ⟨(Bo), (wrap64 (bG + 1)), (Z16), H', ⟨Z81⟩, ⟨Z104 HO659⟩, ⟨Z26 ar⟩, ⟨Z2⟩⟩
            rw [if_neg c74] at H
            exact absurd H (by simp)
           rw [if_neg c73] at H
           exact absurd H (by simp)
          rw [if_neg c72] at H
          exact absurd H (by simp)
         rw [if_neg c62] at H
         have tI : decide (bG < (ai.length : Int)) = false := decide_eq_false c62
         clear c62
         by_cases c79 : (ai.length : Int) > 0
         ·rw [if_pos c79] at H
          have c79b0 : decide (0 < (ai.length : Int)) = true := decide_eq_true c79
          have c79b1 : decide (0 < ai.length) = true := decide_eq_true (by omega)
          clear c79
          have H' := Aside0.mk H
          clear H
          go_wp2
          go_roundg k3
          case measure => have := HK1.out; have := HK2.out; have := HK3.out; omega
          case rel => exact ⟨(f3), (!cq), (wrap64 (aQ + 1)), (Z16), (Z16), H', ⟨Z81⟩, ⟨Z35 aj⟩, ⟨Z2⟩⟩
         rw [if_neg c79] at H
         have c79b0 : decide (0 < (ai.length : Int)) = false := decide_eq_false c79
         have c79b1 : decide (0 < ai.length) = false := decide_eq_false (by omega)
         clear c79
         have H' := Aside0.mk H
         clear H
         go_wp2
         go_roundg k3
         case measure => have := HK1.out; have := HK2.out; have := HK3.out; omega
         case rel => exact ⟨(f3), (cq), (wrap64 (aQ + 1)), (Z16), (Z16), H', ⟨Z81⟩, ⟨Z35 aj⟩, ⟨Z2⟩⟩
    rw [if_neg c5] at H
    have fX : decide (aQ < 2000) = false := decide_eq_false c5
    clear c5
    simp only [Option.some.injEq, Prod.mk.injEq] at H
    obtain ⟨rfl, rfl⟩ := H
    go_wp2
    go_ret2
    exact ⟨_, Z12, Z1 aj, Z2⟩
 replace c3 := Bool.eq_false_iff.mpr c3
 subst c3
 rw [if_neg (show ¬ (false = true) by decide)] at H
 simp only [Option.some.injEq, Prod.mk.injEq] at H
 obtain ⟨rfl, rfl⟩ := H
 go_enter Tryz.func19, Tryz.ntmps19
 go_wp2_with ((with_reducible refine gate_callee (f := 28) rfl ?_); refine gl_ 13 Tryz.func28 #[.slice A0 l0.length c0] ?_; (with_reducible refine (spec_puGood.calls k _ _ l0 false _ ?_ ?_ A2.out).mono ?_); exact (Z18 HR0); exact HC0.out; rintro e sA ⟨rfl, hb⟩; refine ⟨_, rfl, ?_⟩; refine k1_ (below_step (Z2) hb) ?_; clear HB; intro HB; (try clear hb))
 go_ret2
 exact ⟨_, Z12, Z37, Z2⟩

end Go.Proofs.YtmnnmddfmmaohaaGreat.PFnHead
