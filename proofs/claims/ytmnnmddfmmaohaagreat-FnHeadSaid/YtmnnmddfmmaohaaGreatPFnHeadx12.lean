-- written by a program of this session: the kit's print, with outer functions of the session's own (wip/ext)
import Derived.Test.YtmnnmddfmmaohaaGreatPFnHeadx0
import Derived.Test.YtmnnmddfmmaohaaGreatPFnHeadx2
import Derived.Test.YtmnnmddfmmaohaaGreatPFnHeadx8
import Derived.Test.YtmnnmddfmmaohaaGreatPFnHeadx10
import Derived.Test.YtmnnmddfmmaohaaGreatPFnHeadx11
namespace Go.Proofs.YtmnnmddfmmaohaaGreat.PFnHead
open Go.RowKit Go.Proofs.YtmnnmddfmmaohaaGreatW.PrintWords Go.Proofs.YtmnnmddfmmaohaaGreatW.PrintLast Go.Proofs.YtmnnmddfmmaohaaGreatW.PrintMore
attribute [local go_sem] max2_int min2_int max_two min_two max_three min_three max_four min_four   -- for this text's walks alone
set_option linter.unusedVariables false
set_option linter.unusedSimpArgs false
theorem mo12_ {p : Prop} (h : p := by repeat' first | (with_reducible first | apply ih0 | apply ih0 | apply ih1 | apply ih1 | apply impl_AreStrokes.mono | apply impl_AreStrokes.mono | apply spec_puGood.mono | apply spec_puGood.mono | exact LeO.refl _ | exact LeO.none _ | refine LeO.ite ?_ ?_ | refine LeO.bind ?_ (fun _ => ?_)) | exact LeO.none _ | refine LeO.ite ?_ ?_ | refine LeO.bind ?_ (fun _ => ?_)) : p := h

/-! ### impl_ToolChanges: function 10 -/
mutual
def impl_ToolChanges.j0 : Nat → List (S30) → Int → Bool → Option (Int × Bool)
 | 0, _, _, _ => none
 | k + 1, x0, x1, x15 => if x15 = true then (some (0, false)) else (impl_ToolChanges.l0 k x0 x1 0 1)
def impl_ToolChanges.l0 : Nat → List (S30) → Int → Int → Int → Option (Int × Bool)
 | 0, _, _, _, _ => none
 | k + 1, x0, x1, x6, x7 => if x7 < (x0.length : Int) then (if 0 ≤ x7 then (if x1 = 0 then (none) else (if 0 ≤ (wrap64 (x7 - 1)) then (if (wrap64 (x7 - 1)) < (x0.length : Int) then (if (Int.tmod ((rd_T30 x0 x7).f0) x1) = (Int.tmod ((rd_T30 x0 (wrap64 (x7 - 1))).f0) x1) then (impl_ToolChanges.l0 k x0 x1 x6 (wrap64 (x7 + 1))) else (impl_ToolChanges.l0 k x0 x1 (wrap64 (x6 + 1)) (wrap64 (x7 + 1)))) else (none)) else (none))) else (none)) else (some (x6, true))
end
def impl_ToolChanges.f (k : Nat) (l0 : List (S30)) (a1 : Int) : Option (Int × Bool) := (impl_AreStrokes.f k l0).bind fun s9 => (if s9 = true then ((impl_isTools.f a1).bind fun nv => (impl_ToolChanges.j0 k l0 a1 (!nv))) else (impl_ToolChanges.j0 k l0 a1 true))
theorem impl_ToolChanges.mono_l : ∀ k, (∀ y0 y1 y2, LeO (impl_ToolChanges.j0 k y0 y1 y2) (impl_ToolChanges.j0 (k + 1) y0 y1 y2)) ∧ (∀ y0 y1 y2 y3, LeO (impl_ToolChanges.l0 k y0 y1 y2 y3) (impl_ToolChanges.l0 (k + 1) y0 y1 y2 y3))
 | 0 => ⟨fun _ _ _ r h => by simp [impl_ToolChanges.j0] at h, fun _ _ _ _ r h => by simp [impl_ToolChanges.l0] at h⟩
 | k + 1 => by
  obtain ⟨ih0, ih1⟩ := impl_ToolChanges.mono_l k
  refine ⟨?_, ?_⟩
  ·intro y0 y1 y2
   unfold impl_ToolChanges.j0
   exact mo12_
  intro y0 y1 y2 y3
  unfold impl_ToolChanges.l0
  exact mo12_
theorem impl_ToolChanges.mono : ∀ a0 a1 k, LeO (impl_ToolChanges.f k a0 a1) (impl_ToolChanges.f (k + 1) a0 a1) := by
 intro a0 a1 k
 obtain ⟨ih0, ih1⟩ := impl_ToolChanges.mono_l k
 unfold impl_ToolChanges.f
 exact mo12_
set_option maxHeartbeats 8000000 in
set_option maxRecDepth 100000 in
theorem impl_ToolChanges.calls (k : Nat) (A0 : Option Addr) (c0 : Nat) (l0 : List (S30)) (a1 : Int) (r1 : Int) (r2 : Bool) (w : World) (hr0 : Kd.C k30 w A0 l0.length l0) (hc0 : l0.length ≤ c0) (h : impl_ToolChanges.f k l0 a1 = some (r1, r2)) :
  Calls Tryz.prog 10 #[.slice A0 l0.length c0, .int .i64 a1] w fun e w' => e = .returned (.tuple #[.int .i64 r1, .bool r2]) ∧ Below w.heap.size w w' := by
 have HR0 := Aside0.mk hr0
 have HC0 := Aside0.mk hc0
 clear hr0 hc0
 have HB := Aside0.mk (Below.refl w.heap.size w)
 have H : ((impl_AreStrokes.f k l0).bind fun s9 => (if s9 = true then ((impl_isTools.f a1).bind fun nv => (impl_ToolChanges.j0 k l0 a1 (!nv))) else (impl_ToolChanges.j0 k l0 a1 true))) = some (r1, r2) := h
 clear h
 have HC3 := Aside0.mk H
 clear H
 go_enter Tryz.func10, Tryz.ntmps10
 go_upto_region 1 with (fail)
 repeat (go_quiet (fail); go_upto_region 1 with (fail))
 go_cut [15] (fun Du wc => ∃ (kq : Nat) (g5 : Bool), Du = .bool g5 ∧ Aside0 (impl_ToolChanges.j0 kq l0 a1 g5 = some (r1, r2)) ∧ Aside0 (kq ≤ k) ∧ Aside0 (Below w.heap.size w wc))
 case first =>
  have H := HC3.out
  clear HC3
  replace H := Option.bind_eq_some_iff.mp H
  obtain ⟨s9, fW, H⟩ := H
  (try dsimp only at H)
  have A4 := Aside0.mk fW
  clear fW
  by_cases c5 : s9 = true
  ·subst c5
   rw [if_pos rfl] at H
   replace H := Option.bind_eq_some_iff.mp H
   obtain ⟨nv, fV, H⟩ := H
   (try dsimp only at H)
   have A6 := Aside0.mk fV
   clear fV
   have H' := Aside0.mk H
   clear H
   go_wp2_with (first | (go_at_call 24; (with_reducible refine (impl_AreStrokes.calls k _ _ l0 true _ ?_ ?_ A4.out).mono ?_); exact (Z15 HR0); exact HC0.out; rintro e w7 ⟨rfl, hb⟩; refine k1_ (below_step (Z2) hb) ?_; clear HB; intro HB; (try clear hb)) | (go_at_call 33; (with_reducible refine (impl_isTools.calls a1 nv _ A6.out).mono ?_); rintro e w' ⟨rfl, ⟨nd, rfl⟩⟩; (try first | exact ⟨rfl, _, World.drewN_drewN _ _ _⟩ | exact ⟨rfl, _, Eq.trans (World.drewN_drewN _ _ _) (congrArg (World.drewN _) (Nat.add_assoc _ _ _))⟩)))
   repeat (go_quiet (first | (go_at_call 24; (with_reducible refine (impl_AreStrokes.calls k _ _ l0 true _ ?_ ?_ A4.out).mono ?_); exact (Z15 HR0); exact HC0.out; rintro e w7 ⟨rfl, hb⟩; refine k1_ (below_step (Z2) hb) ?_; clear HB; intro HB; (try clear hb)) | (go_at_call 33; (with_reducible refine (impl_isTools.calls a1 nv _ A6.out).mono ?_); rintro e w' ⟨rfl, ⟨nd, rfl⟩⟩; (try first | exact ⟨rfl, _, World.drewN_drewN _ _ _⟩ | exact ⟨rfl, _, Eq.trans (World.drewN_drewN _ _ _) (congrArg (World.drewN _) (Nat.add_assoc _ _ _))⟩))); try go_wp2_with (first | (go_at_call 24; (with_reducible refine (impl_AreStrokes.calls k _ _ l0 true _ ?_ ?_ A4.out).mono ?_); exact (Z15 HR0); exact HC0.out; rintro e w7 ⟨rfl, hb⟩; refine k1_ (below_step (Z2) hb) ?_; clear HB; intro HB; (try clear hb)) | (go_at_call 33; (with_reducible refine (impl_isTools.calls a1 nv _ A6.out).mono ?_); rintro e w' ⟨rfl, ⟨nd, rfl⟩⟩; (try first | exact ⟨rfl, _, World.drewN_drewN _ _ _⟩ | exact ⟨rfl, _, Eq.trans (World.drewN_drewN _ _ _) (congrArg (World.drewN _) (Nat.add_assoc _ _ _))⟩))))
   go_meet
   case rel => exact ⟨_, (!nv), (Z16), H', ⟨Z68⟩, ⟨Z2⟩⟩
  replace c5 := Bool.eq_false_iff.mpr c5
  subst c5
  rw [if_neg (show ¬ (false = true) by decide)] at H
  have H' := Aside0.mk H
  clear H
  go_wp2_with (first | (go_at_call 24; (with_reducible refine (impl_AreStrokes.calls k _ _ l0 false _ ?_ ?_ A4.out).mono ?_); exact (Z15 HR0); exact HC0.out; rintro e w8 ⟨rfl, hb⟩; refine k1_ (below_step (Z2) hb) ?_; clear HB; intro HB; (try clear hb)))
  repeat (go_quiet (first | (go_at_call 24; (with_reducible refine (impl_AreStrokes.calls k _ _ l0 false _ ?_ ?_ A4.out).mono ?_); exact (Z15 HR0); exact HC0.out; rintro e w8 ⟨rfl, hb⟩; refine k1_ (below_step (Z2) hb) ?_; clear HB; intro HB; (try clear hb))); try go_wp2_with (first | (go_at_call 24; (with_reducible refine (impl_AreStrokes.calls k _ _ l0 false _ ?_ ?_ A4.out).mono ?_); exact (Z15 HR0); exact HC0.out; rintro e w8 ⟨rfl, hb⟩; refine k1_ (below_step (Z2) hb) ?_; clear HB; intro HB; (try clear hb))))
  go_meet
  case rel => exact ⟨_, (true), (Z16), H', ⟨Z68⟩, ⟨Z2⟩⟩
 case rest =>
  clear HC3
  (try clear c1); (try clear p2); (try clear c5)
  obtain ⟨kq, g5, rfl, HA, pF, HB⟩ := hcut
  cases kq with
  | zero => exact absurd HA.out (by simp [impl_ToolChanges.j0])
  | succ rL =>
   have H := HA.out
   clear HA
   simp only [impl_ToolChanges.j0] at H
   by_cases c9 : g5 = true
   ·subst c9
    rw [if_pos rfl] at H
    simp only [Option.some.injEq, Prod.mk.injEq] at H
    obtain ⟨rfl, rfl⟩ := H
    go_wp2
    repeat (go_quiet (fail); try go_wp2)
    go_ret2
    exact ⟨Z12, Z2⟩
   replace c9 := Bool.eq_false_iff.mpr c9
   subst c9
   rw [if_neg (show ¬ (false = true) by decide)] at H
   have H' := Aside0.mk H
   clear H
   go_wp2
   repeat (go_quiet (fail); try go_wp2)
   go_loopg [6, 7] rL (fun kq v6 v7 w' => ∃ (bK : Int) (ai : Int), v6 = .int .i64 bK ∧ v7 = .int .i64 ai ∧ Aside0 (impl_ToolChanges.l0 kq l0 a1 bK ai = some (r1, r2)) ∧ Aside0 (kq ≤ rL) ∧ Aside0 (Below w.heap.size w w'))
   case atStart => exact ⟨(0), (1), (Z16), (Z16), H', ⟨Nat.le_refl _⟩, ⟨Z2⟩⟩
   case round =>
    clear H'
    (try clear c9)
    obtain ⟨bK, ai, rfl, rfl, HA, HK2, HB⟩ := hrel
    cases gk with
    | zero => exact absurd HA.out (by simp [impl_ToolChanges.l0])
    | succ k2 =>
     have H := HA.out
     clear HA
     simp only [impl_ToolChanges.l0] at H
     by_cases c10 : ai < (l0.length : Int)
     ·rw [if_pos c10] at H
      have cg : decide (ai < (l0.length : Int)) = true := decide_eq_true c10
      clear c10
      by_cases c11 : 0 ≤ ai
      ·rw [if_pos c11] at H
       have jD : decide (0 ≤ ai) = true := decide_eq_true c11
       clear c11
       by_cases c12 : a1 = 0
       ·rw [if_pos c12] at H
        exact absurd H (by simp)
       rw [if_neg c12] at H
       have iE : (a1 == 0) = false := beq_eq_false_iff_ne.mpr c12
       have c12b1 : (a1 != 0) = true := bne_iff_ne.mpr c12
       obtain ⟨ci, hji13⟩ : ∃ j_ : Int, (wrap64 (ai - 1)) = j_ := ⟨_, rfl⟩
       replace H : (if 0 ≤ (ci) then (if (ci) < (l0.length : Int) then (if (Int.tmod ((rd_T30 l0 ai).f0) a1) = (Int.tmod ((rd_T30 l0 (ci)).f0) a1) then (impl_ToolChanges.l0 k2 l0 a1 bK (wrap64 (ai + 1))) else (impl_ToolChanges.l0 k2 l0 a1 (wrap64 (bK + 1)) (wrap64 (ai + 1)))) else (none)) else (none)) = some (r1, r2) := by first | (rw [hji13] at H; exact H) | (simp only [hji13] at H ⊢; exact H)
       have hji13w : (IntKind.i64.wrap (ai - 1)) = ci := (i64_w _).trans hji13
       by_cases c14 : 0 ≤ (ci)
       ·rw [if_pos c14] at H
        have gU : decide (0 ≤ (ci)) = true := decide_eq_true c14
        clear c14
        by_cases c15 : (ci) < (l0.length : Int)
        ·rw [if_pos c15] at H
         have fO : decide ((ci) < (l0.length : Int)) = true := decide_eq_true c15
         clear c15
         by_cases c16 : (Int.tmod ((rd_T30 l0 ai).f0) a1) = (Int.tmod ((rd_T30 l0 (ci)).f0) a1)
         ·rw [if_pos c16] at H
          have ej : ((Int.tmod ((rd_T30 l0 ai).f0) a1) == (Int.tmod ((rd_T30 l0 (ci)).f0) a1)) = true := beq_iff_eq.mpr c16
          have qR : ((Int.tmod ((rd_T30 l0 ai).f0) a1) != (Int.tmod ((rd_T30 l0 (ci)).f0) a1)) = false := bne_eq_false_iff_eq.mpr c16
          clear c16
          have H' := Aside0.mk H
          clear H
          have pG : 0 ≤ (ai : Int) := of_decide_eq_true (Z4)
          have pH : ai < (l0.length : Int) := of_decide_eq_true (Z4)
          obtain ⟨ta, e542, fm, fo⟩ := at_T30 HR0.out ai pG pH
          cases e542
          replace fm := (HB.out.cell (World.block_lt_of_cell? w _ fm)).trans fm
          replace fo := (HB.out.cell (World.block_lt_of_cell? w _ fo)).trans fo
          replace pG := eq_true pG
          replace pH := eq_true pH
          have pI : 0 ≤ ((ci) : Int) := of_decide_eq_true (Z4)
          have pJ : (ci) < (l0.length : Int) := of_decide_eq_true (Z4)
          obtain ⟨tb, e543, fp, fq⟩ := at_T30 HR0.out (ci) pI pJ
          obtain rfl : ta = tb := (by injection e543)
          replace fp := (HB.out.cell (World.block_lt_of_cell? w _ fp)).trans fp
          replace fq := (HB.out.cell (World.block_lt_of_cell? w _ fq)).trans fq
          replace pI := eq_true pI
          replace pJ := eq_true pJ
          go_wp2
          repeat (go_quiet (fail); try go_wp2)
          go_roundg k2
          case measure => have := pF.out; have := HK2.out; omega
          case rel => exact ⟨(bK), (wrap64 (ai + 1)), (Z16), (Z16), H', ⟨Z115 pF⟩, ⟨Z2⟩⟩
         rw [if_neg c16] at H
         have ej : ((Int.tmod ((rd_T30 l0 ai).f0) a1) == (Int.tmod ((rd_T30 l0 (ci)).f0) a1)) = false := beq_eq_false_iff_ne.mpr c16
         have qR : ((Int.tmod ((rd_T30 l0 ai).f0) a1) != (Int.tmod ((rd_T30 l0 (ci)).f0) a1)) = true := bne_iff_ne.mpr c16
         have H' := Aside0.mk H
         clear H
         have pG : 0 ≤ (ai : Int) := of_decide_eq_true (Z4)
         have pH : ai < (l0.length : Int) := of_decide_eq_true (Z4)
         obtain ⟨ta, e542, fm, fo⟩ := at_T30 HR0.out ai pG pH
         cases e542
         replace fm := (HB.out.cell (World.block_lt_of_cell? w _ fm)).trans fm
         replace fo := (HB.out.cell (World.block_lt_of_cell? w _ fo)).trans fo
         replace pG := eq_true pG
         replace pH := eq_true pH
         have pI : 0 ≤ ((ci) : Int) := of_decide_eq_true (Z4)
         have pJ : (ci) < (l0.length : Int) := of_decide_eq_true (Z4)
         obtain ⟨tb, e543, fp, fq⟩ := at_T30 HR0.out (ci) pI pJ
         obtain rfl : ta = tb := (by injection e543)
         replace fp := (HB.out.cell (World.block_lt_of_cell? w _ fp)).trans fp
         replace fq := (HB.out.cell (World.block_lt_of_cell? w _ fq)).trans fq
         replace pI := eq_true pI
         replace pJ := eq_true pJ
         go_wp2
         repeat (go_quiet (fail); try go_wp2)
         go_roundg k2
         case measure => have := pF.out; have := HK2.out; omega
         case rel => exact ⟨(wrap64 (bK + 1)), (wrap64 (ai + 1)), (Z16), (Z16), H', ⟨Z115 pF⟩, ⟨Z2⟩⟩
        rw [if_neg c15] at H
        exact absurd H (by simp)
       rw [if_neg c14] at H
       exact absurd H (by simp)
      rw [if_neg c11] at H
      exact absurd H (by simp)
     rw [if_neg c10] at H
     have cg : decide (ai < (l0.length : Int)) = false := decide_eq_false c10
     clear c10
     simp only [Option.some.injEq, Prod.mk.injEq] at H
     obtain ⟨rfl, rfl⟩ := H
     go_wp2
     repeat (go_quiet (fail); try go_wp2)
     go_ret2
     exact ⟨Z12, Z2⟩

/-! ### spec_puTools: function 34 -/
def spec_puTools.f (a0 : Int) : Option (Bool) := (spec_l1In.f a0 1 5).bind fun rM => (some rM)
set_option maxHeartbeats 8000000 in
set_option maxRecDepth 100000 in
theorem spec_puTools.calls (a0 : Int) (r : Bool) (w : World) (h : spec_puTools.f a0 = some r) :
  Calls Tryz.prog 34 #[.int .i64 a0] w fun e w' => e = .returned (.bool r) ∧ Drawn0 w w' := by
 have H : ((spec_l1In.f a0 1 5).bind fun rM => (some rM)) = some r := h
 clear h
 replace H := Option.bind_eq_some_iff.mp H
 obtain ⟨rM, cK, H⟩ := H
 replace H : (some rM) = some r := H
 have A2 := Aside0.mk cK
 clear cK
 obtain rfl := Option.some.inj H
 go_enter Tryz.func34, Tryz.ntmps34
 go_wp2_with (first | ((with_reducible refine gate_callee (f := 30) rfl ?_); refine gl_ 4 Tryz.func30 #[.int .i64 a0, .int .i64 1, .int .i64 5] ?_; (with_reducible refine (spec_l1In.calls a0 1 5 rM _ A2.out).mono ?_); rintro e w' ⟨rfl, ⟨nd, rfl⟩⟩; refine ⟨_, rfl, ?_⟩))
 go_ret
 exact ⟨Z16, Z44⟩

/-! ### spec_ToolChanges: function 11 -/
mutual
def spec_ToolChanges.j0 : Nat → List (S30) → Int → Bool → Option (Int × Bool)
 | 0, _, _, _ => none
 | k + 1, x0, x1, x15 => if x15 = true then (some (0, false)) else (spec_ToolChanges.l0 k x0 x1 0 1)
def spec_ToolChanges.l0 : Nat → List (S30) → Int → Int → Int → Option (Int × Bool)
 | 0, _, _, _, _ => none
 | k + 1, x0, x1, x6, x7 => if x7 < (x0.length : Int) then (if 0 ≤ x7 then (if x1 = 0 then (none) else (if 0 ≤ (wrap64 (x7 - 1)) then (if (wrap64 (x7 - 1)) < (x0.length : Int) then (if (Int.tmod ((rd_T30 x0 x7).f0) x1) = (Int.tmod ((rd_T30 x0 (wrap64 (x7 - 1))).f0) x1) then (spec_ToolChanges.l0 k x0 x1 x6 (wrap64 (x7 + 1))) else (spec_ToolChanges.l0 k x0 x1 (wrap64 (x6 + 1)) (wrap64 (x7 + 1)))) else (none)) else (none))) else (none)) else (some (x6, true))
end
def spec_ToolChanges.f (k : Nat) (l0 : List (S30)) (a1 : Int) : Option (Int × Bool) := (spec_puGood.f k l0).bind fun tc => (if tc = true then ((spec_puTools.f a1).bind fun nw => (spec_ToolChanges.j0 k l0 a1 (!nw))) else (spec_ToolChanges.j0 k l0 a1 true))
theorem spec_ToolChanges.mono_l : ∀ k, (∀ y0 y1 y2, LeO (spec_ToolChanges.j0 k y0 y1 y2) (spec_ToolChanges.j0 (k + 1) y0 y1 y2)) ∧ (∀ y0 y1 y2 y3, LeO (spec_ToolChanges.l0 k y0 y1 y2 y3) (spec_ToolChanges.l0 (k + 1) y0 y1 y2 y3))
 | 0 => ⟨fun _ _ _ r h => by simp [spec_ToolChanges.j0] at h, fun _ _ _ _ r h => by simp [spec_ToolChanges.l0] at h⟩
 | k + 1 => by
  obtain ⟨ih0, ih1⟩ := spec_ToolChanges.mono_l k
  refine ⟨?_, ?_⟩
  ·intro y0 y1 y2
   unfold spec_ToolChanges.j0
   exact mo12_
  intro y0 y1 y2 y3
  unfold spec_ToolChanges.l0
  exact mo12_
theorem spec_ToolChanges.mono : ∀ a0 a1 k, LeO (spec_ToolChanges.f k a0 a1) (spec_ToolChanges.f (k + 1) a0 a1) := by
 intro a0 a1 k
 obtain ⟨ih0, ih1⟩ := spec_ToolChanges.mono_l k
 unfold spec_ToolChanges.f
 exact mo12_
set_option maxHeartbeats 8000000 in
set_option maxRecDepth 100000 in
theorem spec_ToolChanges.calls (k : Nat) (A0 : Option Addr) (c0 : Nat) (l0 : List (S30)) (a1 : Int) (r1 : Int) (r2 : Bool) (w : World) (hr0 : Kd.C k30 w A0 l0.length l0) (hc0 : l0.length ≤ c0) (h : spec_ToolChanges.f k l0 a1 = some (r1, r2)) :
  Calls Tryz.prog 11 #[.slice A0 l0.length c0, .int .i64 a1] w fun e w' => e = .returned (.tuple #[.int .i64 r1, .bool r2]) ∧ Below w.heap.size w w' := by
 have HR0 := Aside0.mk hr0
 have HC0 := Aside0.mk hc0
 clear hr0 hc0
 have HB := Aside0.mk (Below.refl w.heap.size w)
 have H : ((spec_puGood.f k l0).bind fun tc => (if tc = true then ((spec_puTools.f a1).bind fun nw => (spec_ToolChanges.j0 k l0 a1 (!nw))) else (spec_ToolChanges.j0 k l0 a1 true))) = some (r1, r2) := h
 clear h
 have HC3 := Aside0.mk H
 clear H
 go_enter Tryz.func11, Tryz.ntmps11
 go_upto_region 1 with (fail)
 repeat (go_quiet (fail); go_upto_region 1 with (fail))
 go_cut [15] (fun Du wc => ∃ (kq : Nat) (g5 : Bool), Du = .bool g5 ∧ Aside0 (spec_ToolChanges.j0 kq l0 a1 g5 = some (r1, r2)) ∧ Aside0 (kq ≤ k) ∧ Aside0 (Below w.heap.size w wc))
 case first =>
  have H := HC3.out
  clear HC3
  replace H := Option.bind_eq_some_iff.mp H
  obtain ⟨tc, fW, H⟩ := H
  (try dsimp only at H)
  have A4 := Aside0.mk fW
  clear fW
  by_cases c5 : tc = true
  ·subst c5
   rw [if_pos rfl] at H
   replace H := Option.bind_eq_some_iff.mp H
   obtain ⟨nw, fV, H⟩ := H
   (try dsimp only at H)
   have A6 := Aside0.mk fV
   clear fV
   have H' := Aside0.mk H
   clear H
   go_wp2_with (first | (go_at_call 28; (with_reducible refine (spec_puGood.calls k _ _ l0 true _ ?_ ?_ A4.out).mono ?_); exact (Z15 HR0); exact HC0.out; rintro e w7 ⟨rfl, hb⟩; refine k1_ (below_step (Z2) hb) ?_; clear HB; intro HB; (try clear hb)) | (go_at_call 34; (with_reducible refine (spec_puTools.calls a1 nw _ A6.out).mono ?_); rintro e w' ⟨rfl, ⟨nd, rfl⟩⟩; (try first | exact ⟨rfl, _, World.drewN_drewN _ _ _⟩ | exact ⟨rfl, _, Eq.trans (World.drewN_drewN _ _ _) (congrArg (World.drewN _) (Nat.add_assoc _ _ _))⟩)))
   repeat (go_quiet (first | (go_at_call 28; (with_reducible refine (spec_puGood.calls k _ _ l0 true _ ?_ ?_ A4.out).mono ?_); exact (Z15 HR0); exact HC0.out; rintro e w7 ⟨rfl, hb⟩; refine k1_ (below_step (Z2) hb) ?_; clear HB; intro HB; (try clear hb)) | (go_at_call 34; (with_reducible refine (spec_puTools.calls a1 nw _ A6.out).mono ?_); rintro e w' ⟨rfl, ⟨nd, rfl⟩⟩; (try first | exact ⟨rfl, _, World.drewN_drewN _ _ _⟩ | exact ⟨rfl, _, Eq.trans (World.drewN_drewN _ _ _) (congrArg (World.drewN _) (Nat.add_assoc _ _ _))⟩))); try go_wp2_with (first | (go_at_call 28; (with_reducible refine (spec_puGood.calls k _ _ l0 true _ ?_ ?_ A4.out).mono ?_); exact (Z15 HR0); exact HC0.out; rintro e w7 ⟨rfl, hb⟩; refine k1_ (below_step (Z2) hb) ?_; clear HB; intro HB; (try clear hb)) | (go_at_call 34; (with_reducible refine (spec_puTools.calls a1 nw _ A6.out).mono ?_); rintro e w' ⟨rfl, ⟨nd, rfl⟩⟩; (try first | exact ⟨rfl, _, World.drewN_drewN _ _ _⟩ | exact ⟨rfl, _, Eq.trans (World.drewN_drewN _ _ _) (congrArg (World.drewN _) (Nat.add_assoc _ _ _))⟩))))
   go_meet
   case rel => exact ⟨_, (!nw), (Z16), H', ⟨Z68⟩, ⟨Z2⟩⟩
  replace c5 := Bool.eq_false_iff.mpr c5
  subst c5
  rw [if_neg (show ¬ (false = true) by decide)] at H
  have H' := Aside0.mk H
  clear H
  go_wp2_with (first | (go_at_call 28; (with_reducible refine (spec_puGood.calls k _ _ l0 false _ ?_ ?_ A4.out).mono ?_); exact (Z15 HR0); exact HC0.out; rintro e w8 ⟨rfl, hb⟩; refine k1_ (below_step (Z2) hb) ?_; clear HB; intro HB; (try clear hb)))
  repeat (go_quiet (first | (go_at_call 28; (with_reducible refine (spec_puGood.calls k _ _ l0 false _ ?_ ?_ A4.out).mono ?_); exact (Z15 HR0); exact HC0.out; rintro e w8 ⟨rfl, hb⟩; refine k1_ (below_step (Z2) hb) ?_; clear HB; intro HB; (try clear hb))); try go_wp2_with (first | (go_at_call 28; (with_reducible refine (spec_puGood.calls k _ _ l0 false _ ?_ ?_ A4.out).mono ?_); exact (Z15 HR0); exact HC0.out; rintro e w8 ⟨rfl, hb⟩; refine k1_ (below_step (Z2) hb) ?_; clear HB; intro HB; (try clear hb))))
  go_meet
  case rel => exact ⟨_, (true), (Z16), H', ⟨Z68⟩, ⟨Z2⟩⟩
 case rest =>
  clear HC3
  (try clear c1); (try clear p2); (try clear c5)
  obtain ⟨kq, g5, rfl, HA, pF, HB⟩ := hcut
  cases kq with
  | zero => exact absurd HA.out (by simp [spec_ToolChanges.j0])
  | succ rL =>
   have H := HA.out
   clear HA
   simp only [spec_ToolChanges.j0] at H
   by_cases c9 : g5 = true
   ·subst c9
    rw [if_pos rfl] at H
    simp only [Option.some.injEq, Prod.mk.injEq] at H
    obtain ⟨rfl, rfl⟩ := H
    go_wp2
    repeat (go_quiet (fail); try go_wp2)
    go_ret2
    exact ⟨Z12, Z2⟩
   replace c9 := Bool.eq_false_iff.mpr c9
   subst c9
   rw [if_neg (show ¬ (false = true) by decide)] at H
   have H' := Aside0.mk H
   clear H
   go_wp2
   repeat (go_quiet (fail); try go_wp2)
   go_loopg [6, 7] rL (fun kq v6 v7 w' => ∃ (bK : Int) (ai : Int), v6 = .int .i64 bK ∧ v7 = .int .i64 ai ∧ Aside0 (spec_ToolChanges.l0 kq l0 a1 bK ai = some (r1, r2)) ∧ Aside0 (kq ≤ rL) ∧ Aside0 (Below w.heap.size w w'))
   case atStart => exact ⟨(0), (1), (Z16), (Z16), H', ⟨Nat.le_refl _⟩, ⟨Z2⟩⟩
   case round =>
    clear H'
    (try clear c9)
    obtain ⟨bK, ai, rfl, rfl, HA, HK2, HB⟩ := hrel
    cases gk with
    | zero => exact absurd HA.out (by simp [spec_ToolChanges.l0])
    | succ k2 =>
     have H := HA.out
     clear HA
     simp only [spec_ToolChanges.l0] at H
     by_cases c10 : ai < (l0.length : Int)
     ·rw [if_pos c10] at H
      have cg : decide (ai < (l0.length : Int)) = true := decide_eq_true c10
      clear c10
      by_cases c11 : 0 ≤ ai
      ·rw [if_pos c11] at H
       have jD : decide (0 ≤ ai) = true := decide_eq_true c11
       clear c11
       by_cases c12 : a1 = 0
       ·rw [if_pos c12] at H
        exact absurd H (by simp)
       rw [if_neg c12] at H
       have iE : (a1 == 0) = false := beq_eq_false_iff_ne.mpr c12
       have c12b1 : (a1 != 0) = true := bne_iff_ne.mpr c12
       obtain ⟨ci, hji13⟩ : ∃ j_ : Int, (wrap64 (ai - 1)) = j_ := ⟨_, rfl⟩
       replace H : (if 0 ≤ (ci) then (if (ci) < (l0.length : Int) then (if (Int.tmod ((rd_T30 l0 ai).f0) a1) = (Int.tmod ((rd_T30 l0 (ci)).f0) a1) then (spec_ToolChanges.l0 k2 l0 a1 bK (wrap64 (ai + 1))) else (spec_ToolChanges.l0 k2 l0 a1 (wrap64 (bK + 1)) (wrap64 (ai + 1)))) else (none)) else (none)) = some (r1, r2) := by first | (rw [hji13] at H; exact H) | (simp only [hji13] at H ⊢; exact H)
       have hji13w : (IntKind.i64.wrap (ai - 1)) = ci := (i64_w _).trans hji13
       by_cases c14 : 0 ≤ (ci)
       ·rw [if_pos c14] at H
        have gU : decide (0 ≤ (ci)) = true := decide_eq_true c14
        clear c14
        by_cases c15 : (ci) < (l0.length : Int)
        ·rw [if_pos c15] at H
         have fO : decide ((ci) < (l0.length : Int)) = true := decide_eq_true c15
         clear c15
         by_cases c16 : (Int.tmod ((rd_T30 l0 ai).f0) a1) = (Int.tmod ((rd_T30 l0 (ci)).f0) a1)
         ·rw [if_pos c16] at H
          have ej : ((Int.tmod ((rd_T30 l0 ai).f0) a1) == (Int.tmod ((rd_T30 l0 (ci)).f0) a1)) = true := beq_iff_eq.mpr c16
          have qR : ((Int.tmod ((rd_T30 l0 ai).f0) a1) != (Int.tmod ((rd_T30 l0 (ci)).f0) a1)) = false := bne_eq_false_iff_eq.mpr c16
          clear c16
          have H' := Aside0.mk H
          clear H
          have pK : 0 ≤ (ai : Int) := of_decide_eq_true (Z4)
          have pL : ai < (l0.length : Int) := of_decide_eq_true (Z4)
          obtain ⟨td, e547, ft, fu⟩ := at_T30 HR0.out ai pK pL
          cases e547
          replace ft := (HB.out.cell (World.block_lt_of_cell? w _ ft)).trans ft
          replace fu := (HB.out.cell (World.block_lt_of_cell? w _ fu)).trans fu
          replace pK := eq_true pK
          replace pL := eq_true pL
          have pM : 0 ≤ ((ci) : Int) := of_decide_eq_true (Z4)
          have pN : (ci) < (l0.length : Int) := of_decide_eq_true (Z4)
          obtain ⟨te, e548, fv, fw⟩ := at_T30 HR0.out (ci) pM pN
          obtain rfl : td = te := (by injection e548)
          replace fv := (HB.out.cell (World.block_lt_of_cell? w _ fv)).trans fv
          replace fw := (HB.out.cell (World.block_lt_of_cell? w _ fw)).trans fw
          replace pM := eq_true pM
          replace pN := eq_true pN
          go_wp2
          repeat (go_quiet (fail); try go_wp2)
          go_roundg k2
          case measure => have := pF.out; have := HK2.out; omega
          case rel => exact ⟨(bK), (wrap64 (ai + 1)), (Z16), (Z16), H', ⟨Z115 pF⟩, ⟨Z2⟩⟩
         rw [if_neg c16] at H
         have ej : ((Int.tmod ((rd_T30 l0 ai).f0) a1) == (Int.tmod ((rd_T30 l0 (ci)).f0) a1)) = false := beq_eq_false_iff_ne.mpr c16
         have qR : ((Int.tmod ((rd_T30 l0 ai).f0) a1) != (Int.tmod ((rd_T30 l0 (ci)).f0) a1)) = true := bne_iff_ne.mpr c16
         have H' := Aside0.mk H
         clear H
         have pK : 0 ≤ (ai : Int) := of_decide_eq_true (Z4)
         have pL : ai < (l0.length : Int) := of_decide_eq_true (Z4)
         obtain ⟨td, e547, ft, fu⟩ := at_T30 HR0.out ai pK pL
         cases e547
         replace ft := (HB.out.cell (World.block_lt_of_cell? w _ ft)).trans ft
         replace fu := (HB.out.cell (World.block_lt_of_cell? w _ fu)).trans fu
         replace pK := eq_true pK
         replace pL := eq_true pL
         have pM : 0 ≤ ((ci) : Int) := of_decide_eq_true (Z4)
         have pN : (ci) < (l0.length : Int) := of_decide_eq_true (Z4)
         obtain ⟨te, e548, fv, fw⟩ := at_T30 HR0.out (ci) pM pN
         obtain rfl : td = te := (by injection e548)
         replace fv := (HB.out.cell (World.block_lt_of_cell? w _ fv)).trans fv
         replace fw := (HB.out.cell (World.block_lt_of_cell? w _ fw)).trans fw
         replace pM := eq_true pM
         replace pN := eq_true pN
         go_wp2
         repeat (go_quiet (fail); try go_wp2)
         go_roundg k2
         case measure => have := pF.out; have := HK2.out; omega
         case rel => exact ⟨(wrap64 (bK + 1)), (wrap64 (ai + 1)), (Z16), (Z16), H', ⟨Z115 pF⟩, ⟨Z2⟩⟩
        rw [if_neg c15] at H
        exact absurd H (by simp)
       rw [if_neg c14] at H
       exact absurd H (by simp)
      rw [if_neg c11] at H
      exact absurd H (by simp)
     rw [if_neg c10] at H
     have cg : decide (ai < (l0.length : Int)) = false := decide_eq_false c10
     clear c10
     simp only [Option.some.injEq, Prod.mk.injEq] at H
     obtain ⟨rfl, rfl⟩ := H
     go_wp2
     repeat (go_quiet (fail); try go_wp2)
     go_ret2
     exact ⟨Z12, Z2⟩

/-! ### impl_WearOf: function 12 -/
mutual
def impl_WearOf.j0 : Nat → List (S30) → Int → Bool → Option (List Int × Bool)
 | 0, _, _, _ => none
 | k + 1, x0, x1, x16 => if x16 = true then (some (([] : List Int), false)) else (if 0 ≤ x1 then (if (x1 : Int).toNat ≤ 35184372088832 then (impl_WearOf.l0 k x1 (List.replicate (x1 : Int).toNat 0) x0 (x0.length : Int) 0) else (none)) else (none))
def impl_WearOf.l0 : Nat → Int → List Int → List (S30) → Int → Int → Option (List Int × Bool)
 | 0, _, _, _, _, _ => none
 | k + 1, x1, x6, x19, x20, x21 => if x21 < x20 then (if 0 ≤ x21 then (if x21 < (x19.length : Int) then (if x1 = 0 then (none) else (if 0 ≤ (Int.tmod ((rd_T30 x19 x21).f0) x1) then (if (Int.tmod ((rd_T30 x19 x21).f0) x1) < (x6.length : Int) then (impl_WearOf.l0 k x1 (x6.set ((Int.tmod ((rd_T30 x19 x21).f0) x1) : Int).toNat (wrap64 ((rd x6 (Int.tmod ((rd_T30 x19 x21).f0) x1)) + 1))) x19 x20 (wrap64 (x21 + 1))) else (none)) else (none))) else (none)) else (none)) else (some (x6, true))
end
def impl_WearOf.f (k : Nat) (l0 : List (S30)) (a1 : Int) : Option (List Int × Bool) := (impl_AreStrokes.f k l0).bind fun tf => (if tf = true then ((impl_isTools.f a1).bind fun rN => (impl_WearOf.j0 k l0 a1 (!rN))) else (impl_WearOf.j0 k l0 a1 true))
theorem impl_WearOf.mono_l : ∀ k, (∀ y0 y1 y2, LeO (impl_WearOf.j0 k y0 y1 y2) (impl_WearOf.j0 (k + 1) y0 y1 y2)) ∧ (∀ y0 y1 y2 y3 y4, LeO (impl_WearOf.l0 k y0 y1 y2 y3 y4) (impl_WearOf.l0 (k + 1) y0 y1 y2 y3 y4))
 | 0 => ⟨fun _ _ _ r h => by simp [impl_WearOf.j0] at h, fun _ _ _ _ _ r h => by simp [impl_WearOf.l0] at h⟩
 | k + 1 => by
  obtain ⟨ih0, ih1⟩ := impl_WearOf.mono_l k
  refine ⟨?_, ?_⟩
  ·intro y0 y1 y2
   unfold impl_WearOf.j0
   exact mo12_
  intro y0 y1 y2 y3 y4
  unfold impl_WearOf.l0
  exact mo12_
theorem impl_WearOf.mono : ∀ a0 a1 k, LeO (impl_WearOf.f k a0 a1) (impl_WearOf.f (k + 1) a0 a1) := by
 intro a0 a1 k
 obtain ⟨ih0, ih1⟩ := impl_WearOf.mono_l k
 unfold impl_WearOf.f
 exact mo12_
set_option maxHeartbeats 8000000 in
set_option maxRecDepth 100000 in
theorem impl_WearOf.calls (k : Nat) (A0 : Option Addr) (c0 : Nat) (l0 : List (S30)) (a1 : Int) (r1 : List Int) (r2 : Bool) (w : World) (hr0 : Kd.C k30 w A0 l0.length l0) (hc0 : l0.length ≤ c0) (h : impl_WearOf.f k l0 a1 = some (r1, r2)) :
  Calls Tryz.prog 12 #[.slice A0 l0.length c0, .int .i64 a1] w fun e w' => ∃ v0_ : Value, e = .returned (.tuple #[v0_, .bool r2]) ∧ Kd.R (Kd.int .i64) 3 w' w.heap.size (fun _ => True) v0_ r1 ∧ Below w.heap.size w w' := by
 have hu30 := Tryz.underlying30
 have HR0 := Aside0.mk hr0
 have HC0 := Aside0.mk hc0
 clear hr0 hc0
 have HB := Aside0.mk (Below.refl w.heap.size w)
 have H : ((impl_AreStrokes.f k l0).bind fun tf => (if tf = true then ((impl_isTools.f a1).bind fun rN => (impl_WearOf.j0 k l0 a1 (!rN))) else (impl_WearOf.j0 k l0 a1 true))) = some (r1, r2) := h
 clear h
 have HC3 := Aside0.mk H
 clear H
 go_enter Tryz.func12, Tryz.ntmps12
 go_upto_region 1 with (fail)
 go_cut [16] (fun Dv wc => ∃ (kq : Nat) (g6 : Bool), Dv = .bool g6 ∧ Aside0 (impl_WearOf.j0 kq l0 a1 g6 = some (r1, r2)) ∧ Aside0 (kq ≤ k) ∧ Aside0 (Below w.heap.size w wc))
 case first =>
  have H := HC3.out
  clear HC3
  replace H := Option.bind_eq_some_iff.mp H
  obtain ⟨tf, fW, H⟩ := H
  (try dsimp only at H)
  have A4 := Aside0.mk fW
  clear fW
  by_cases c5 : tf = true
  ·subst c5
   rw [if_pos rfl] at H
   replace H := Option.bind_eq_some_iff.mp H
   obtain ⟨rN, fV, H⟩ := H
   (try dsimp only at H)
   have A6 := Aside0.mk fV
   clear fV
   have H' := Aside0.mk H
   clear H
   go_wp2_with (first | ((with_reducible refine gate_callee (f := 24) rfl ?_); refine gl_ 10 Tryz.func24 #[.slice A0 l0.length c0] ?_; (with_reducible refine (impl_AreStrokes.calls k _ _ l0 true _ ?_ ?_ A4.out).mono ?_); exact (Z15 HR0); exact HC0.out; rintro e w7 ⟨rfl, hb⟩; refine ⟨_, rfl, ?_⟩; refine k1_ (below_step (Z2) hb) ?_; clear HB; intro HB; (try clear hb)) | (go_at_call 33; (with_reducible refine (impl_isTools.calls a1 rN _ A6.out).mono ?_); rintro e w' ⟨rfl, ⟨nd, rfl⟩⟩))
   go_meet
   case rel => exact ⟨_, (!rN), (Z16), H', ⟨Z68⟩, ⟨Z2⟩⟩
  replace c5 := Bool.eq_false_iff.mpr c5
  subst c5
  rw [if_neg (show ¬ (false = true) by decide)] at H
  have H' := Aside0.mk H
  clear H
  go_wp2_with (first | ((with_reducible refine gate_callee (f := 24) rfl ?_); refine gl_ 10 Tryz.func24 #[.slice A0 l0.length c0] ?_; (with_reducible refine (impl_AreStrokes.calls k _ _ l0 false _ ?_ ?_ A4.out).mono ?_); exact (Z15 HR0); exact HC0.out; rintro e w8 ⟨rfl, hb⟩; refine ⟨_, rfl, ?_⟩; refine k1_ (below_step (Z2) hb) ?_; clear HB; intro HB; (try clear hb)))
  go_meet
  case rel => exact ⟨_, (true), (Z16), H', ⟨Z68⟩, ⟨Z2⟩⟩
 case rest =>
  clear HC3
  (try clear c1); (try clear c2); (try clear p2); (try clear c5)
  obtain ⟨kq, g6, rfl, HA, pF, HB⟩ := hcut
  cases kq with
  | zero => exact absurd HA.out (by simp [impl_WearOf.j0])
  | succ rL =>
   have H := HA.out
   clear HA
   simp only [impl_WearOf.j0] at H
   by_cases c9 : g6 = true
   ·subst c9
    rw [if_pos rfl] at H
    simp only [Option.some.injEq, Prod.mk.injEq] at H
    obtain ⟨rfl, rfl⟩ := H
    go_wp2
    go_ret2
    exact ⟨_, Z12, Z37, Z2⟩
   replace c9 := Bool.eq_false_iff.mpr c9
   subst c9
   rw [if_neg (show ¬ (false = true) by decide)] at H
   by_cases c10 : 0 ≤ a1
   ·rw [if_pos c10] at H
    have cg := eq_true c10
    have qS : decide (0 ≤ a1) = true := decide_eq_true c10
    clear c10
    by_cases c11 : (a1 : Int).toNat ≤ 35184372088832
    ·rw [if_pos c11] at H
     have jD := eq_true c11
     have tg : decide ((a1 : Int).toNat ≤ 35184372088832) = true := decide_eq_true c11
     clear c11
     obtain ⟨AU, nx⟩ : ∃ y_ : List Int, y_ = (List.replicate (a1 : Int).toNat 0) := ⟨_, rfl⟩
     replace H : (impl_WearOf.l0 rL a1 AU l0 (l0.length : Int) 0) = some (r1, r2) := by first | (rw [nx]; with_reducible exact H) | (have H2_ := (Option.bind_some _ _).symm.trans H; rw [nx]; with_reducible exact H2_) | (have H2_ := (Option.bind_some _ _).symm.trans H; with_reducible exact H2_) | with_reducible exact H | (rw [nx]; exact H) | exact H
     have wU := Aside0.mk nx
     clear nx
     have H' := Aside0.mk H
     clear H
     go_wp2_with (first | ((with_reducible refine gate_dst (N := 18) rfl ?_); refine Kd.R_make (Kd.int .i64) _ 3 rfl (N := 18) rfl 34 _ _ rfl a1 rfl rfl Tryz.underlying34 (.int .i64 0) 8 info3 rfl (by decide) (by omega) 0 (ok := fun _ => True) (okp := fun _ => True) rfl (fun _ hk => hk) trivial (of_decide_eq_true (Z4)) (Nat.le_trans (Nat.mul_le_mul_right _ (of_decide_eq_true (Z4) : a1.toNat ≤ 35184372088832)) (by omega)) (Below.refl _ _) (Nat.le_refl _) ?_; intro AV vy ho13 hb hg_ hnew_; clear hg_ hnew_; (first | rw [← wU.out] at ho13 | (simp only [Int.reduceToNat] at ho13; rw [← wU.out] at ho13)); refine k2_ (Kd.R_lower ho13 (below_size (Z2))) (below_step (Z2) hb) ?_; clear HB; intro HO553 HB; clear hb ho13))
     (try simp only [Act.put, List.setIfInBounds_toArray, List.set_cons_zero, List.set_cons_succ])
     go_loopg [21] rL (fun kq AW w' => ∃ (bK : List Int) (ah : Int), AW = .int .i64 ah ∧ Aside0 (impl_WearOf.l0 kq a1 bK l0 (l0.length : Int) ah = some (r1, r2)) ∧ Aside0 (kq ≤ rL) ∧ Aside0 (Kd.R (Kd.int .i64) 3 w' w.heap.size (fun _ => True) AV bK) ∧ Aside0 (Below w.heap.size w w'))
     case atStart => exact ⟨(AU), (0), (Z16), H', ⟨Nat.le_refl _⟩, ⟨Z1 HO553⟩, ⟨Z2⟩⟩
     case round =>
      clear H'
      (try clear c9); (try clear c10); (try clear cg); (try clear qS); (try clear c11); (try clear jD); (try clear tg); (try clear c12)
      obtain ⟨bK, ah, rfl, HA, HK2, cA, HB⟩ := hrel
      cases gk with
      | zero => exact absurd HA.out (by simp [impl_WearOf.l0])
      | succ k2 =>
       have H := HA.out
       clear HA
       simp only [impl_WearOf.l0] at H
       by_cases c14 : ah < (l0.length : Int)
       ·rw [if_pos c14] at H
        have gU : decide (ah < (l0.length : Int)) = true := decide_eq_true c14
        clear c14
        by_cases c15 : 0 ≤ ah
        ·rw [if_pos c15] at H
         have fO : decide (0 ≤ ah) = true := decide_eq_true c15
         clear c15
         by_cases c16 : ah < (l0.length : Int)
         ·rw [if_pos c16] at H
          have ej : decide (ah < (l0.length : Int)) = true := decide_eq_true c16
          clear c16
          by_cases c17 : a1 = 0
          ·rw [if_pos c17] at H
           exact absurd H (by simp)
          rw [if_neg c17] at H
          have lM : (a1 == 0) = false := beq_eq_false_iff_ne.mpr c17
          have qT : (a1 != 0) = true := bne_iff_ne.mpr c17
          obtain ⟨bW, hji18⟩ : ∃ j_ : Int, (Int.tmod ((rd_T30 l0 ah).f0) a1) = j_ := ⟨_, rfl⟩
          replace H : (if 0 ≤ (bW) then (if (bW) < (bK.length : Int) then (impl_WearOf.l0 k2 a1 (bK.set ((bW) : Int).toNat (wrap64 ((rd bK (bW)) + 1))) l0 (l0.length : Int) (wrap64 (ah + 1))) else (none)) else (none)) = some (r1, r2) := by first | (rw [hji18] at H; exact H) | (simp only [hji18] at H ⊢; exact H)
          by_cases c19 : 0 ≤ (bW)
          ·rw [if_pos c19] at H
           have jA : decide (0 ≤ (bW)) = true := decide_eq_true c19
           clear c19
           by_cases c20 : (bW) < (bK.length : Int)
           ·rw [if_pos c20] at H
            have ea : decide ((bW) < (bK.length : Int)) = true := decide_eq_true c20
            clear c20
            obtain ⟨yE, ny⟩ : ∃ y_ : List Int, y_ = (bK.set ((bW) : Int).toNat (wrap64 ((rd bK (bW)) + 1))) := ⟨_, rfl⟩
            replace H : (impl_WearOf.l0 k2 a1 yE l0 (l0.length : Int) (wrap64 (ah + 1))) = some (r1, r2) := by first | (rw [ny]; with_reducible exact H) | (have H2_ := (Option.bind_some _ _).symm.trans H; rw [ny]; with_reducible exact H2_) | (have H2_ := (Option.bind_some _ _).symm.trans H; with_reducible exact H2_) | with_reducible exact H | (rw [ny]; exact H) | exact H
            have Ny557 := Aside0.mk ny
            clear ny
            have H' := Aside0.mk H
            clear H
            have yF : 0 ≤ (ah : Int) := of_decide_eq_true (Z4)
            have yG : ah < (l0.length : Int) := of_decide_eq_true (Z4)
            obtain ⟨ad554, e554, my, mz⟩ := at_T30 HR0.out ah yF yG
            cases e554
            replace my := (HB.out.cell (World.block_lt_of_cell? w _ my)).trans my
            replace mz := (HB.out.cell (World.block_lt_of_cell? w _ mz)).trans mz
            replace yF := eq_true yF
            replace yG := eq_true yG
            go_wp2_with (first | ((with_reducible refine gate_dst (N := 8) rfl ?_); refine bv_ 8 30 #[.int .i64 0, .int .i64 0] ?_; intro iH hg vA hbox hb; refine k5_ (Ya_ cA) (below_step (Z2) hb) (hbox) ((Z38 : w.heap.size ≤ iH)) ((Z38 : w.heap.size ≤ iH)) ?_; clear cA HB; intro cA HB gF GW555 GE555; clear hb hbox hg; obtain ⟨hcz23_0, hcz23_1, hfz23_0, hfz23_1⟩ := bx2_ (w := vA) gF.out) | ((with_reducible refine gate_store (t := 30) (p := 8) rfl ?_); refine store_event (t := 30) (p := 8) (v := ?vo_w24) (w1 := ((vA.setCell ⟨iH, 0, none⟩ (.int .i64 ((rd_T30 l0 ah).f0))).setCell ⟨iH, 1, none⟩ (.int .i64 ((rd_T30 l0 ah).f1)))) ?hg ?ho ?hn ?hr ?_; (case ho => rfl); (case hg => rfl); (case hn => rfl); (case hr => exact Z29); intro jE hw; have n0_ : Aside0 (Kd.R (Kd.int .i64) 3 jE w.heap.size (fun _ => True) AV bK) := ⟨(by rw [hw]; exact (by (with_reducible repeat (first | apply Kd.R_alloc | apply Kd.R_drewN | apply Kd.R_drew)); exact Kd.R_mono (Kd.R_far (p := ⟨iH, 1, none⟩) (Kd.R_far (p := ⟨iH, 0, none⟩) (Kd.R_types cA.out gF.out (by decide)) (fun _ hk => hk.2) (.int .i64 ((rd_T30 l0 ah).f0))) (fun _ hk => hk.2) (.int .i64 ((rd_T30 l0 ah).f1))) (fun _ hk => trivial)))⟩; have n1_ : Aside0 (jE.heap[iH]? = some (.cells #[.int .i64 ((rd_T30 l0 ah).f0), .int .i64 ((rd_T30 l0 ah).f1)] 30 (0, 0))) := ⟨(by rw [hw]; exact (Z63 gF))⟩; have n2_ : Aside0 (Below w.heap.size w jE) := ⟨(by rw [hw]; exact Z137)⟩; clear hw; clear cA; clear gF; clear HB; have cA := n0_; have gF := n1_; have HB := n2_; clear n0_ n1_ n2_; obtain ⟨qU, qV, qW, qX⟩ := bx2_ (w := jE) gF.out; obtain ⟨Ao26, yH, yI⟩ := Kd.R_slice cA.out; subst yI; have yJ : 0 ≤ ((bW) : Int) := of_decide_eq_true (Z4); have yK : (bW) < (bK.length : Int) := of_decide_eq_true (Z4); obtain ⟨ad556, e556, hx556_0⟩ := Kd.at_int (Kd.R_reads' cA.out).2.2 (bW) yJ yK; cases e556; replace yJ := eq_true yJ; replace yK := eq_true yK; have wV : 0 ≤ ((bW) : Int) := of_decide_eq_true (Z4); have wW : ((bW) : Int) < ((bK.length : Int) : Int) := of_decide_eq_true (Z4); obtain ⟨go21, co21, th, ti, gl21, cl21, HG21⟩ := Kd.R_form cA.out (by omega); (first | cases th | (injection th with ea_ en_ ec_; (first | subst ea_ | (injection ea_ with ea_; subst ea_)); subst ec_; clear en_)); have GB21 := Aside0.mk ti; have GG21 := Aside0.mk HG21; clear ti gl21 HG21; (first | simp only [add_plain] at hx556_0 | skip); obtain ⟨hx21_0, hf21_0⟩ := Kd.R_celln 0 cA.out ((bW) : Int) wV wW; replace wV := eq_true wV; replace wW := eq_true wW; obtain ⟨hy27_, hz27_⟩ := Kd.R_celln 0 cA.out ((bW) : Int) (of_decide_eq_true (Z4)) (of_decide_eq_true (Z4)); have HP27 := Kd.R_putg cA.out ((bW) : Int) (wrap64 ((rd bK (bW)) + 1))) | ((with_reducible refine gate_store (t := 3) (p := 33) rfl ?_); refine store_event (t := 3) (p := 33) (v := ?vo_w28) (w1 := (jE.setCell ⟨go21, ((bW) : Int).toNat, none⟩ (.int .i64 (wrap64 ((rd bK (bW)) + 1))))) ?hg ?ho ?hn ?hr ?_; (case ho => rfl); (case hg => rfl); (case hn => rfl); (case hr => exact Z29); intro sv hw; have hg : jE.grownBy sv (some go21) := (by rw [hw]; exact HP27.2); have hp_ : Kd.R (Kd.int .i64) 3 sv w.heap.size (fun _ => True) (.slice (some ⟨go21, 0, none⟩) bK.length yH) yE := (by rw [hw, Ny557.out]; exact HP27.1); clear HP27; refine k3_ (hp_) (blk_grown (g := iH) (o := .cells #[.int .i64 ((rd_T30 l0 ah).f0), .int .i64 ((rd_T30 l0 ah).f1)] 30 (0, 0)) (Z6 gF) hg (Kd.R_ne cA.out gF.out (by decide))) ((by rw [hw]; exact below_set (HB.out) GB21.out : Below w.heap.size w sv)) ?_; clear cA gF HB; intro cA gF HB; clear hg hw hp_))
            go_roundg k2
            case measure => have := pF.out; have := HK2.out; omega
            case rel => exact ⟨(yE), (wrap64 (ah + 1)), (Z16), H', ⟨Z115 pF⟩, ⟨Z1 cA⟩, ⟨Z137⟩⟩
           rw [if_neg c20] at H
           exact absurd H (by simp)
          rw [if_neg c19] at H
          exact absurd H (by simp)
         rw [if_neg c16] at H
         exact absurd H (by simp)
        rw [if_neg c15] at H
        exact absurd H (by simp)
       rw [if_neg c14] at H
       have gU : decide (ah < (l0.length : Int)) = false := decide_eq_false c14
       clear c14
       simp only [Option.some.injEq, Prod.mk.injEq] at H
       obtain ⟨rfl, rfl⟩ := H
       go_wp2
       go_ret2
       exact ⟨_, Z12, Z1 cA, Z2⟩
    rw [if_neg c11] at H
    exact absurd H (by simp)
   rw [if_neg c10] at H
   exact absurd H (by simp)

end Go.Proofs.YtmnnmddfmmaohaaGreat.PFnHead
