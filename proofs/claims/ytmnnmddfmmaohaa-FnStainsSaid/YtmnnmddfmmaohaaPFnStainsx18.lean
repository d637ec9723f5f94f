-- written by a program of this session: the kit's print, with outer functions of the session's own (wip/ext)
import Derived.Test.YtmnnmddfmmaohaaPFnStainsx0
import Derived.Test.YtmnnmddfmmaohaaPFnStainsx1
import Derived.Test.YtmnnmddfmmaohaaPFnStainsx6
import Derived.Test.YtmnnmddfmmaohaaPFnStainsx9
import Derived.Test.YtmnnmddfmmaohaaPFnStainsx10
import Derived.Test.YtmnnmddfmmaohaaPFnStainsx11
import Derived.Test.YtmnnmddfmmaohaaPFnStainsx12
import Derived.Test.YtmnnmddfmmaohaaPFnStainsx14
import Derived.Test.YtmnnmddfmmaohaaPFnStainsx15
import Derived.Test.YtmnnmddfmmaohaaPFnStainsx16
import Derived.Test.YtmnnmddfmmaohaaPFnStainsx17
namespace Go.Proofs.Ytmnnmddfmmaohaa.PFnStains
open Go.RowKit Go.Proofs.YtmnnmddfmmaohaaW.PrintWords Go.Proofs.YtmnnmddfmmaohaaW.PrintLast Go.Proofs.YtmnnmddfmmaohaaW.PrintMore
attribute [local go_sem] max2_int min2_int max_two min_two max_three min_three max_four min_four   -- for this text's walks alone
set_option linter.unusedVariables false
set_option linter.unusedSimpArgs false
theorem mo18_ {p : Prop} (h : p := by repeat' first | (with_reducible first | apply ih0 | apply ih0 | apply ih1 | apply ih1 | apply ih2 | apply ih2 | apply ih3 | apply ih3 | apply ih4 | apply ih4 | apply ih5 | apply ih5 | apply impl_AgreeScans.mono | apply impl_AgreeScans.mono | apply impl_BestSkew.mono | apply impl_BestSkew.mono | apply impl_CountStains.mono | apply impl_CountStains.mono | apply impl_MeetScans.mono | apply impl_MeetScans.mono | apply impl_SkewScan.mono | apply impl_SkewScan.mono | apply impl_StainScan.mono | apply impl_StainScan.mono | apply laws_pSameTexts.mono | apply laws_pSameTexts.mono | apply spec_AgreeScans.mono | apply spec_AgreeScans.mono | apply spec_BestSkew.mono | apply spec_BestSkew.mono | apply spec_DrawBestSkew.mono | apply spec_DrawBestSkew.mono | apply spec_DrawMeetScans.mono | apply spec_DrawMeetScans.mono | apply spec_DrawSkewScan.mono | apply spec_DrawSkewScan.mono | apply spec_DrawStainScan.mono | apply spec_DrawStainScan.mono | apply spec_MeetScans.mono | apply spec_MeetScans.mono | apply spec_SkewScan.mono | apply spec_SkewScan.mono | apply spec_StainScan.mono | apply spec_StainScan.mono | exact LeO.refl _ | exact LeO.none _ | refine LeO.ite ?_ ?_ | refine LeO.bind ?_ (fun _ => ?_)) | exact LeO.none _ | refine LeO.ite ?_ ?_ | refine LeO.bind ?_ (fun _ => ?_)) : p := h

theorem ex_32 {α : Type} {p : α → α → α → α → α → α → α → α → α → α → α → α → α → α → α → α → α → α → α → α → α → α → α → α → α → α → α → α → α → α → α → α → Prop} (a0 a1 a2 a3 a4 a5 a6 a7 a8 a9 a10 a11 a12 a13 a14 a15 a16 a17 a18 a19 a20 a21 a22 a23 a24 a25 a26 a27 a28 a29 a30 a31 : α) (h : p a0 a1 a2 a3 a4 a5 a6 a7 a8 a9 a10 a11 a12 a13 a14 a15 a16 a17 a18 a19 a20 a21 a22 a23 a24 a25 a26 a27 a28 a29 a30 a31) : ∃ a0 a1 a2 a3 a4 a5 a6 a7 a8 a9 a10 a11 a12 a13 a14 a15 a16 a17 a18 a19 a20 a21 a22 a23 a24 a25 a26 a27 a28 a29 a30 a31, p a0 a1 a2 a3 a4 a5 a6 a7 a8 a9 a10 a11 a12 a13 a14 a15 a16 a17 a18 a19 a20 a21 a22 a23 a24 a25 a26 a27 a28 a29 a30 a31 := ⟨a0, a1, a2, a3, a4, a5, a6, a7, a8, a9, a10, a11, a12, a13, a14, a15, a16, a17, a18, a19, a20, a21, a22, a23, a24, a25, a26, a27, a28, a29, a30, a31, h⟩
theorem ex_8 {α : Type} {p : α → α → α → α → α → α → α → α → Prop} (a0 a1 a2 a3 a4 a5 a6 a7 : α) (h : p a0 a1 a2 a3 a4 a5 a6 a7) : ∃ a0 a1 a2 a3 a4 a5 a6 a7, p a0 a1 a2 a3 a4 a5 a6 a7 := ⟨a0, a1, a2, a3, a4, a5, a6, a7, h⟩
/-! ### laws_FnStains: function 3 -/
mutual
def laws_FnStains.j0 : Nat → List Int → List ByteArray → Int → Int → List ByteArray → Bool → List ByteArray → Bool → Option (Bool)
 | 0, _, _, _, _, _, _, _, _ => none
 | k + 1, x1, x5, x6, x7, x9, x10, x11, x91 => if x91 = true then (some false) else (if x10 = true then ((impl_AgreeScans.f k x5 x9).bind fun bt666 => ((impl_MeetScans.f k x9 x5).bind fun bt668 => ((impl_CountStains.f k x5).bind fun bt672 => ((impl_CountStains.f k x9).bind fun bt674 => (if bt666.2 = true then (if bt666.1 = true then (if bt668.2 = true then ((laws_pSameTexts.f k bt668.1 x5).bind fun t676 => (if t676 = true then (if bt672.2 = true then (if bt674.2 = true then (if bt674.1 < bt672.1 then (some false) else (if 0 ≤ x6 then (if x6 < (x11.length : Int) then (if 0 ≤ x7 then (if x7 < ((rdOf ByteArray.empty x11 x6).size : Int) then (if (bt (rdOf ByteArray.empty x11 x6) x7) = 63 then (laws_FnStains.j1 k x1) else (some false)) else (none)) else (none)) else (none)) else (none))) else (some false)) else (some false)) else (some false))) else (some false)) else (some false)) else (some false)))))) else (laws_FnStains.j1 k x1))
def laws_FnStains.j1 : Nat → List Int → Option (Bool)
 | 0, _ => none
 | k + 1, x1 => (spec_DrawMeetScans.f k x1).bind fun bt678 => ((impl_MeetScans.f k bt678.1 bt678.2).bind fun bt684 => ((spec_MeetScans.f k bt678.1 bt678.2).bind fun bt688 => ((impl_AgreeScans.f k bt678.1 bt678.2).bind fun bt692 => ((spec_AgreeScans.f k bt678.1 bt678.2).bind fun bt694 => (if (bt684.2 != bt688.2) = true then (laws_FnStains.j2 k x1 bt678.1 bt678.2 bt684.1 bt684.2 bt688.1 true) else ((laws_pSameTexts.f k bt684.1 bt688.1).bind fun t696 => (if t696 = true then (if (bt692.2 != bt694.2) = true then (laws_FnStains.j2 k x1 bt678.1 bt678.2 bt684.1 bt684.2 bt688.1 true) else (if (bt692.1 != bt694.1) = true then (laws_FnStains.j2 k x1 bt678.1 bt678.2 bt684.1 bt684.2 bt688.1 true) else (if bt692.2 = true then (laws_FnStains.j2 k x1 bt678.1 bt678.2 bt684.1 bt684.2 bt688.1 (bt684.2 != bt694.1)) else (laws_FnStains.j2 k x1 bt678.1 bt678.2 bt684.1 bt684.2 bt688.1 (bt684.2 != false))))) else (laws_FnStains.j2 k x1 bt678.1 bt678.2 bt684.1 bt684.2 bt688.1 true))))))))
def laws_FnStains.j2 : Nat → List Int → List ByteArray → List ByteArray → List ByteArray → Bool → List ByteArray → Bool → Option (Bool)
 | 0, _, _, _, _, _, _, _ => none
 | k + 1, x1, x21, x22, x23, x24, x25, x208 => if x208 = true then (some false) else (if x24 = true then ((impl_MeetScans.f k x22 x21).bind fun bt697 => ((impl_CountStains.f k x23).bind fun bt701 => ((impl_CountStains.f k x21).bind fun bt703 => ((impl_CountStains.f k x22).bind fun bt705 => (if bt697.2 = true then ((laws_pSameTexts.f k bt697.1 x25).bind fun t707 => (if t707 = true then (if bt701.2 = true then (if bt703.2 = true then (if bt705.2 = true then (if bt701.1 > bt703.1 then (some false) else (if bt701.1 > bt705.1 then (some false) else (laws_FnStains.j3 k x1))) else (some false)) else (some false)) else (some false)) else (some false))) else (some false)))))) else (laws_FnStains.j3 k x1))
def laws_FnStains.j3 : Nat → List Int → Option (Bool)
 | 0, _ => none
 | k + 1, x1 => (spec_DrawBestSkew.f k x1).bind fun bt708 => ((impl_BestSkew.f k bt708.1 bt708.2).bind fun bt714 => ((spec_BestSkew.f k bt708.1 bt708.2).bind fun bt717 => (if (bt714.2.2 != bt717.2.2) = true then (laws_FnStains.j4 k x1 bt708.1 bt708.2 bt714.2.2 bt717.1 bt717.2.1 true) else (if bt714.1 = bt717.1 then (if bt714.2.1 = bt717.2.1 then (if bt714.2.2 = true then (if bt717.1 < (-10) then (laws_FnStains.j4 k x1 bt708.1 bt708.2 bt714.2.2 bt717.1 bt717.2.1 true) else (if bt717.1 > 10 then (laws_FnStains.j4 k x1 bt708.1 bt708.2 bt714.2.2 bt717.1 bt717.2.1 true) else (laws_FnStains.j4 k x1 bt708.1 bt708.2 bt714.2.2 bt717.1 bt717.2.1 (decide (bt717.2.1 < 0))))) else (laws_FnStains.j4 k x1 bt708.1 bt708.2 bt714.2.2 bt717.1 bt717.2.1 false)) else (laws_FnStains.j4 k x1 bt708.1 bt708.2 bt714.2.2 bt717.1 bt717.2.1 true)) else (laws_FnStains.j4 k x1 bt708.1 bt708.2 bt714.2.2 bt717.1 bt717.2.1 true)))))
def laws_FnStains.j4 : Nat → List Int → List ByteArray → List ByteArray → Bool → Int → Int → Bool → Option (Bool)
 | 0, _, _, _, _, _, _, _ => none
 | k + 1, x1, x39, x40, x43, x44, x45, x307 => if x307 = true then (some false) else (if x43 = true then ((impl_SkewScan.f k x39 x44).bind fun bt720 => ((impl_AgreeScans.f k bt720.1 x40).bind fun bt724 => (if bt720.2 = true then (if bt724.2 = true then (if (bt724.1 != (x45 == 0)) = true then (some false) else (laws_FnStains.j5 k x1)) else (some false)) else (some false)))) else (laws_FnStains.j5 k x1))
def laws_FnStains.j5 : Nat → List Int → Option (Bool)
 | 0, _ => none
 | k + 1, x1 => (spec_DrawSkewScan.f k x1).bind fun bt726 => ((impl_SkewScan.f k bt726.1 bt726.2).bind fun bt730 => ((spec_SkewScan.f k bt726.1 bt726.2).bind fun bt734 => (if (bt730.2 == bt734.2) = true then ((laws_pSameTexts.f k bt730.1 bt734.1).bind fun t738 => (if t738 = true then (if bt730.2 = true then (if bt726.2 = 0 then ((laws_pSameTexts.f k bt734.1 bt726.1).bind fun t739 => (some t739)) else (some true)) else (some true)) else (some false))) else (some false))))
end
def laws_FnStains.f (k : Nat) (l0 : List Int) (l1 : List Int) : Option (Bool) := (laws_big.f l0 l1).bind fun t650 => (if t650 = true then (some true) else ((spec_DrawStainScan.f k l0).bind fun bt651 => ((impl_StainScan.f k bt651.1 bt651.2.1 bt651.2.2.1 bt651.2.2.2).bind fun bt657 => ((spec_StainScan.f k bt651.1 bt651.2.1 bt651.2.2.1 bt651.2.2.2).bind fun bt661 => (if (bt657.2 != bt661.2) = true then (laws_FnStains.j0 k l1 bt651.1 bt651.2.1 bt651.2.2.1 bt657.1 bt657.2 bt661.1 true) else ((laws_pSameTexts.f k bt657.1 bt661.1).bind fun t665 => (laws_FnStains.j0 k l1 bt651.1 bt651.2.1 bt651.2.2.1 bt657.1 bt657.2 bt661.1 (!t665))))))))
theorem laws_FnStains.mono_l : ∀ k, (∀ y0 y1 y2 y3 y4 y5 y6 y7, LeO (laws_FnStains.j0 k y0 y1 y2 y3 y4 y5 y6 y7) (laws_FnStains.j0 (k + 1) y0 y1 y2 y3 y4 y5 y6 y7)) ∧ (∀ y0, LeO (laws_FnStains.j1 k y0) (laws_FnStains.j1 (k + 1) y0)) ∧ (∀ y0 y1 y2 y3 y4 y5 y6, LeO (laws_FnStains.j2 k y0 y1 y2 y3 y4 y5 y6) (laws_FnStains.j2 (k + 1) y0 y1 y2 y3 y4 y5 y6)) ∧ (∀ y0, LeO (laws_FnStains.j3 k y0) (laws_FnStains.j3 (k + 1) y0)) ∧ (∀ y0 y1 y2 y3 y4 y5 y6, LeO (laws_FnStains.j4 k y0 y1 y2 y3 y4 y5 y6) (laws_FnStains.j4 (k + 1) y0 y1 y2 y3 y4 y5 y6)) ∧ (∀ y0, LeO (laws_FnStains.j5 k y0) (laws_FnStains.j5 (k + 1) y0))
 | 0 => ⟨fun _ _ _ _ _ _ _ _ r h => by simp [laws_FnStains.j0] at h, fun _ r h => by simp [laws_FnStains.j1] at h, fun _ _ _ _ _ _ _ r h => by simp [laws_FnStains.j2] at h, fun _ r h => by simp [laws_FnStains.j3] at h, fun _ _ _ _ _ _ _ r h => by simp [laws_FnStains.j4] at h, fun _ r h => by simp [laws_FnStains.j5] at h⟩
 | k + 1 => by
  obtain ⟨ih0, ih1, ih2, ih3, ih4, ih5⟩ := laws_FnStains.mono_l k
  refine ⟨?_, ?_, ?_, ?_, ?_, ?_⟩
  ·intro y0 y1 y2 y3 y4 y5 y6 y7
   unfold laws_FnStains.j0
   exact mo18_
  ·intro y0
   unfold laws_FnStains.j1
   exact mo18_
  ·intro y0 y1 y2 y3 y4 y5 y6
   unfold laws_FnStains.j2
   exact mo18_
  ·intro y0
   unfold laws_FnStains.j3
   exact mo18_
  ·intro y0 y1 y2 y3 y4 y5 y6
   unfold laws_FnStains.j4
   exact mo18_
  intro y0
  unfold laws_FnStains.j5
  exact mo18_
theorem laws_FnStains.mono : ∀ a0 a1 k, LeO (laws_FnStains.f k a0 a1) (laws_FnStains.f (k + 1) a0 a1) := by
 intro a0 a1 k
 obtain ⟨ih0, ih1, ih2, ih3, ih4, ih5⟩ := laws_FnStains.mono_l k
 unfold laws_FnStains.f
 exact mo18_
set_option maxHeartbeats 8000000 in
set_option maxRecDepth 100000 in
theorem laws_FnStains.calls (k : Nat) (A0 : Option Addr) (c0 : Nat) (l0 : List Int) (A1 : Option Addr) (c1 : Nat) (l1 : List Int) (r : Bool) (w : World) (hr0 : Kd.C (Kd.int .u8) w A0 l0.length l0) (hc0 : l0.length ≤ c0) (hr1 : Kd.C (Kd.int .u8) w A1 l1.length l1) (hc1 : l1.length ≤ c1) (h : laws_FnStains.f k l0 l1 = some r) :
  Calls Try.prog 3 #[.slice A0 l0.length c0, .slice A1 l1.length c1] w fun e w' => e = .returned (.bool r) ∧ Below w.heap.size w w' := by
 have HR0 := Aside0.mk hr0
 have HC0 := Aside0.mk hc0
 clear hr0 hc0
 have HR1 := Aside0.mk hr1
 have HC1 := Aside0.mk hc1
 clear hr1 hc1
 have HB := Aside0.mk (Below.refl w.heap.size w)
 have H : ((laws_big.f l0 l1).bind fun t650 => (if t650 = true then (some true) else ((spec_DrawStainScan.f k l0).bind fun bt651 => ((impl_StainScan.f k bt651.1 bt651.2.1 bt651.2.2.1 bt651.2.2.2).bind fun bt657 => ((spec_StainScan.f k bt651.1 bt651.2.1 bt651.2.2.1 bt651.2.2.2).bind fun bt661 => (if (bt657.2 != bt661.2) = true then (laws_FnStains.j0 k l1 bt651.1 bt651.2.1 bt651.2.2.1 bt657.1 bt657.2 bt661.1 true) else ((laws_pSameTexts.f k bt657.1 bt661.1).bind fun t665 => (laws_FnStains.j0 k l1 bt651.1 bt651.2.1 bt651.2.2.1 bt657.1 bt657.2 bt661.1 (!t665))))))))) = some r := h
 clear h
 replace H := Option.bind_eq_some_iff.mp H
 obtain ⟨t650, A30, H⟩ := H
 (try dsimp only at H)
 have A3 := Aside0.mk A30
 clear A30
 by_cases c4 : t650 = true
 ·subst c4
  rw [if_pos rfl] at H
  obtain rfl := Option.some.inj H
  go_enter Try.func3, Try.ntmps3
  as_aux_lemma =>
   go_wp2_with (first | ((with_reducible refine gate_callee (f := 5) rfl ?_); refine gl_ 59 Try.func5 #[.slice A0 l0.length c0, .slice A1 l1.length c1] ?_; (with_reducible refine (laws_big.calls _ _ l0 _ _ l1 true _ ?_ ?_ ?_ ?_ A3.out).mono ?_); exact Z9 HR0.out; exact HC0.out; exact Z9 HR1.out; exact HC1.out; rintro e w' ⟨rfl, ⟨nd, rfl⟩⟩; refine ⟨_, rfl, ?_⟩))
   go_ret
   exact ⟨Z11, Z2⟩
 replace c4 := Bool.eq_false_iff.mpr c4
 subst c4
 rw [if_neg (show ¬ (false = true) by decide)] at H
 replace H := Option.bind_eq_some_iff.mp H
 obtain ⟨⟨t651, t652, t653, t654⟩, A50, H⟩ := H
 (try dsimp only at H)
 have A5 := Aside0.mk A50
 clear A50
 replace H := Option.bind_eq_some_iff.mp H
 obtain ⟨⟨t657, t658⟩, A60, H⟩ := H
 (try dsimp only at H)
 have A6 := Aside0.mk A60
 clear A60
 replace H := Option.bind_eq_some_iff.mp H
 obtain ⟨⟨t661, t662⟩, A70, H⟩ := H
 (try dsimp only at H)
 have A7 := Aside0.mk A70
 clear A70
 have HC8 := Aside0.mk H
 clear H
 go_enter Try.func3, Try.ntmps3
 go_upto_region 6 with (first | ((with_reducible refine gate_callee (f := 5) rfl ?_); refine gl_ 59 Try.func5 #[.slice A0 l0.length c0, .slice A1 l1.length c1] ?_; (with_reducible refine (laws_big.calls _ _ l0 _ _ l1 false _ ?_ ?_ ?_ ?_ A3.out).mono ?_); exact Z9 HR0.out; exact HC0.out; exact Z9 HR1.out; exact HC1.out; rintro e w' ⟨rfl, ⟨nd, rfl⟩⟩; refine ⟨_, rfl, ?_⟩) | ((with_reducible refine gate_callee (f := 6) rfl ?_); refine gl_ 62 Try.func6 #[.slice A0 l0.length c0] ?_; (with_reducible refine (spec_DrawStainScan.calls k _ _ l0 t651 t652 t653 t654 _ ?_ ?_ A5.out).mono ?_); exact Z9 HR0.out; exact HC0.out; rintro e w9 ⟨v655, rfl, ho0, hb⟩; refine ⟨_, rfl, ?_⟩; refine k2_ (Kd.R_lower ho0 (below_size (Z2))) (below_step (Z2) hb) ?_; clear HB; intro HO656 HB; (try clear hb ho0); obtain ⟨Ao10, co10, eo10⟩ := Kd.R_slice HO656.out; subst eo10) | ((with_reducible refine gate_callee (f := 7) rfl ?_); refine gl_ 72 Try.func7 #[.slice Ao10 t651.length co10, .int .i64 t652, .int .i64 t653, .int .i64 t654] ?_; (with_reducible refine (impl_StainScan.calls k _ _ t651 t652 t653 t654 t657 t658 _ ?_ ?_ A6.out).mono ?_); exact Z5 HO656.out; exact (Kd.R_reads' HO656.out).2.1; rintro e w11 ⟨v659, rfl, ho0, hb⟩; refine ⟨_, rfl, ?_⟩; refine k3_ (Kd.R_elder' (Z1 HO656.out) (Kd.R_base ho0) hb) (Kd.R_lower (Kd.R_new' ho0 (Kd.R_lt (Z1 HO656.out))) (below_size (Z2))) (below_step (Z2) hb) ?_; clear HO656 HB; intro HO656 HO660 HB; (try clear hb ho0)) | ((with_reducible refine gate_callee (f := 8) rfl ?_); refine gl_ 80 Try.func8 #[.slice Ao10 t651.length co10, .int .i64 t652, .int .i64 t653, .int .i64 t654] ?_; (with_reducible refine (spec_StainScan.calls k _ _ t651 t652 t653 t654 t661 t662 _ ?_ ?_ A7.out).mono ?_); exact Z5 HO656.out; exact (Kd.R_reads' HO656.out).2.1; rintro e w12 ⟨v663, rfl, ho0, hb⟩; refine ⟨_, rfl, ?_⟩; refine k4_ (Kd.R_elder' (Z1 HO656.out) (Kd.R_base ho0) hb) (Kd.R_elder' (Z1 HO660.out) (Kd.R_base ho0) hb) (Kd.R_lower (Kd.R_new' (Kd.R_new' ho0 (Kd.R_lt (Z1 HO656.out))) (Kd.R_lt (Z1 HO660.out))) (below_size (Z2))) (below_step (Z2) hb) ?_; clear HO656 HO660 HB; intro HO656 HO660 HO664 HB; (try clear hb ho0)))
 (try simp only [Act.put, List.setIfInBounds_toArray, List.set_cons_zero, List.set_cons_succ])
 go_cut [91] (fun v91 wc => ∃ (kq : Nat) (x91_7 : Bool), v91 = .bool x91_7 ∧ Aside0 (laws_FnStains.j0 kq l1 t651 t652 t653 t657 t658 t661 x91_7 = some r) ∧ Aside0 (kq ≤ k) ∧ Aside0 (Kd.R Kd.string 9 wc w.heap.size (fun k_ => some k_ ≠ (v659 : Value).ownBlock ∧ some k_ ≠ (v663 : Value).ownBlock) (.slice Ao10 t651.length co10) t651) ∧ Aside0 (Kd.R Kd.string 9 wc w.heap.size (fun k_ => some k_ ≠ ((.slice Ao10 t651.length co10) : Value).ownBlock ∧ some k_ ≠ (v663 : Value).ownBlock) v659 t657) ∧ Aside0 (Kd.R Kd.string 9 wc w.heap.size (fun k_ => some k_ ≠ ((.slice Ao10 t651.length co10) : Value).ownBlock ∧ some k_ ≠ (v659 : Value).ownBlock) v663 t661) ∧ Aside0 (Below w.heap.size w wc))
 case first =>
  as_aux_lemma =>
   have H := HC8.out
   clear HC8
   by_cases c13 : (t658 != t662) = true
   ·rw [if_pos c13] at H
    have c13b0 : (t658 != t662) = true := c13
    (try (have c13b1 : decide (t658 = t662) = false := by simpa using c13))
    (try (have c13b2 : (t658 == t662) = false := by simpa using c13))
    (try (have c13b3 : ¬ (t658 = t662) := by simpa using c13))
    clear c13
    (first | rw [c13b0] | (simp only [i64_w, i32_w]; rw [c13b0]) | skip)
    have H' := Aside0.mk H
    clear H
    as_aux_lemma =>
     go_wp2
     (refine Met.intro ?_; go_step; (repeat (first | apply ex_32 | apply ex_8 | apply Exists.intro)); refine ⟨?rel, rfl⟩)
     case rel => exact ⟨_, (true), (Z10), H', ⟨Z65⟩, ⟨Z43 HO656.out⟩, ⟨Z43 HO660.out⟩, ⟨Z43 HO664.out⟩, ⟨Z2⟩⟩
   rw [if_neg c13] at H
   have c13b0 : (t658 != t662) = false := by simpa using c13
   (try (have c13b1 : decide (t658 = t662) = true := by simpa using c13))
   (try (have c13b2 : (t658 == t662) = true := by simpa using c13))
   clear c13
   (first | rw [c13b0] | (simp only [i64_w, i32_w]; rw [c13b0]) | skip)
   replace H := Option.bind_eq_some_iff.mp H
   obtain ⟨t665, A140, H⟩ := H
   (try dsimp only at H)
   have A14 := Aside0.mk A140
   clear A140
   have H' := Aside0.mk H
   clear H
   obtain ⟨Ao15, co15, eo15⟩ := Kd.R_slice HO660.out
   subst eo15
   obtain ⟨Ao16, co16, eo16⟩ := Kd.R_slice HO664.out
   subst eo16
   as_aux_lemma =>
    go_wp2_with (first | (go_at_call 9; (with_reducible refine (laws_pSameTexts.calls k _ _ t657 _ _ t661 t665 _ ?_ ?_ ?_ ?_ A14.out).mono ?_); exact Z5 HO660.out; exact (Kd.R_reads' HO660.out).2.1; exact Z5 HO664.out; exact (Kd.R_reads' HO664.out).2.1; rintro e w' ⟨rfl, ⟨nd, rfl⟩⟩))
    (refine Met.intro ?_; go_step; (repeat (first | apply ex_32 | apply ex_8 | apply Exists.intro)); refine ⟨?rel, rfl⟩)
    case rel => exact ⟨_, (!t665), (Z10), H', ⟨Z65⟩, ⟨Z43 HO656.out⟩, ⟨Z43 HO660.out⟩, ⟨Z43 HO664.out⟩, ⟨Z2⟩⟩
 case rest =>
  as_aux_lemma =>
   clear HC8
   (try clear c1); (try clear p2); (try clear c3); (try clear c4); (try clear c5); (try clear c6); (try clear c7); (try clear c8); (try clear c13); (try clear c13b0); (try clear c13b1); (try clear c13b2)
   obtain ⟨kq, x91_7, rfl, HA, HJ7, HO_5, HO_9, HO_11, HB⟩ := hcut
   cases kq with
   | zero => exact absurd HA.out (by simp [laws_FnStains.j0])
   | succ kj7 =>
    have H := HA.out
    clear HA
    simp only [laws_FnStains.j0] at H
    by_cases c17 : x91_7 = true
    ·subst c17
     rw [if_pos rfl] at H
     obtain rfl := Option.some.inj H
     as_aux_lemma =>
      go_wp2
      go_ret
      exact ⟨Z11, Z2⟩
    replace c17 := Bool.eq_false_iff.mpr c17
    subst c17
    rw [if_neg (show ¬ (false = true) by decide)] at H
    have HC18 := Aside0.mk H
    clear H
    go_upto_if 92 with (fail)
    go_cut [] (fun wc => ∃ (kq : Nat), Aside0 (laws_FnStains.j1 kq l1 = some r) ∧ Aside0 (kq ≤ kj7) ∧ Aside0 (Below w.heap.size w wc))
    case first =>
     as_aux_lemma =>
      have H := HC18.out
      clear HC18
      by_cases c19 : t658 = true
      ·subst c19
       rw [if_pos rfl] at H
       replace H := Option.bind_eq_some_iff.mp H
       obtain ⟨⟨t666, t667⟩, A200, H⟩ := H
       (try dsimp only at H)
       have A20 := Aside0.mk A200
       clear A200
       replace H := Option.bind_eq_some_iff.mp H
       obtain ⟨⟨t668, t669⟩, A210, H⟩ := H
       (try dsimp only at H)
       have A21 := Aside0.mk A210
       clear A210
       replace H := Option.bind_eq_some_iff.mp H
       obtain ⟨⟨t672, t673⟩, A220, H⟩ := H
       (try dsimp only at H)
       have A22 := Aside0.mk A220
       clear A220
       replace H := Option.bind_eq_some_iff.mp H
       obtain ⟨⟨t674, t675⟩, A230, H⟩ := H
       (try dsimp only at H)
       have A23 := Aside0.mk A230
       clear A230
       by_cases c24 : t667 = true
       ·subst c24
        rw [if_pos rfl] at H
        by_cases c25 : t666 = true
        ·subst c25
         rw [if_pos rfl] at H
         by_cases c26 : t669 = true
         ·subst c26
          rw [if_pos rfl] at H
          replace H := Option.bind_eq_some_iff.mp H
          obtain ⟨t676, A270, H⟩ := H
          (try dsimp only at H)
          have A27 := Aside0.mk A270
          clear A270
          by_cases c28 : t676 = true
          ·subst c28
           rw [if_pos rfl] at H
           by_cases c29 : t673 = true
           ·subst c29
            rw [if_pos rfl] at H
            by_cases c30 : t675 = true
            ·subst c30
             rw [if_pos rfl] at H
             by_cases c31 : t674 < t672
             ·rw [if_pos c31] at H
              have c31b0 : decide (t674 < t672) = true := decide_eq_true c31
              clear c31
              (first | rw [c31b0] | (simp only [i64_w, i32_w]; rw [c31b0]) | skip)
              obtain rfl := Option.some.inj H
              obtain ⟨Ao32, co32, eo32⟩ := Kd.R_slice HO_9.out
              subst eo32
              as_aux_lemma =>
               go_wp2_with (first | ((with_reducible refine gate_callee (f := 10) rfl ?_); refine gl_ 96 Try.func10 #[.slice Ao10 t651.length co10, .slice Ao32 t657.length co32] ?_; (with_reducible refine (impl_AgreeScans.calls kj7 _ _ t651 _ _ t657 true true _ ?_ ?_ ?_ ?_ A20.out).mono ?_); exact Z5 HO_5.out; exact (Kd.R_reads' HO_5.out).2.1; exact Z5 HO_9.out; exact (Kd.R_reads' HO_9.out).2.1; rintro e w' ⟨rfl, ⟨nd, rfl⟩⟩; refine ⟨_, rfl, ?_⟩) | ((with_reducible refine gate_callee (f := 11) rfl ?_); refine gl_ 102 Try.func11 #[.slice Ao32 t657.length co32, .slice Ao10 t651.length co10] ?_; (with_reducible refine (impl_MeetScans.calls kj7 _ _ t657 _ _ t651 t668 true _ ?_ ?_ ?_ ?_ A21.out).mono ?_); exact Z5 HO_9.out; exact (Kd.R_reads' HO_9.out).2.1; exact Z5 HO_5.out; exact (Kd.R_reads' HO_5.out).2.1; rintro e w33 ⟨v670, rfl, ho0, hb⟩; refine ⟨_, rfl, ?_⟩; refine k5_ (Kd.R_elder' (Z1 HO_5.out) (Kd.R_base ho0) hb) (Kd.R_elder' (Z1 HO_9.out) (Kd.R_base ho0) hb) (Kd.R_elder' (Z1 HO_11.out) (Kd.R_base ho0) hb) (Kd.R_lower (Kd.R_new' (Kd.R_new' (Kd.R_new' ho0 (Kd.R_lt (Z1 HO_5.out))) (Kd.R_lt (Z1 HO_9.out))) (Kd.R_lt (Z1 HO_11.out))) (below_size (Z2))) (below_step (Z2) hb) ?_; clear HO_5 HO_9 HO_11 HB; intro HO_5 HO_9 HO_11 HO671 HB; (try clear hb ho0)) | ((with_reducible refine gate_callee (f := 12) rfl ?_); refine gl_ 107 Try.func12 #[.slice Ao10 t651.length co10] ?_; (with_reducible refine (impl_CountStains.calls kj7 _ _ t651 t672 true _ ?_ ?_ A22.out).mono ?_); exact Z5 HO_5.out; exact (Kd.R_reads' HO_5.out).2.1; rintro e w' ⟨rfl, ⟨nd, rfl⟩⟩; refine ⟨_, rfl, ?_⟩) | ((with_reducible refine gate_callee (f := 12) rfl ?_); refine gl_ 112 Try.func12 #[.slice Ao32 t657.length co32] ?_; (with_reducible refine (impl_CountStains.calls kj7 _ _ t657 t674 true _ ?_ ?_ A23.out).mono ?_); exact Z5 HO_9.out; exact (Kd.R_reads' HO_9.out).2.1; rintro e w' ⟨rfl, ⟨nd, rfl⟩⟩; refine ⟨_, rfl, ?_⟩; obtain ⟨Ao34, co34, eo34⟩ := Kd.R_slice HO671.out; subst eo34) | (go_at_call 9; (with_reducible refine (laws_pSameTexts.calls kj7 _ _ t668 _ _ t651 true _ ?_ ?_ ?_ ?_ A27.out).mono ?_); exact Z5 HO671.out; exact (Kd.R_reads' HO671.out).2.1; exact Z5 HO_5.out; exact (Kd.R_reads' HO_5.out).2.1; rintro e w' ⟨rfl, ⟨nd, rfl⟩⟩))
               go_ret
               exact ⟨Z11, Z2⟩
             rw [if_neg c31] at H
             have c31b0 : decide (t674 < t672) = false := decide_eq_false c31
             clear c31
             (first | rw [c31b0] | (simp only [i64_w, i32_w]; rw [c31b0]) | skip)
             by_cases c35 : 0 ≤ t652
             ·rw [if_pos c35] at H
              have c35b0 : decide (0 ≤ t652) = true := decide_eq_true c35
              clear c35
              by_cases c36 : t652 < (t661.length : Int)
              ·rw [if_pos c36] at H
               have c36b0 : decide (t652 < (t661.length : Int)) = true := decide_eq_true c36
               clear c36
               by_cases c37 : 0 ≤ t653
               ·rw [if_pos c37] at H
                have c37b0 : decide (0 ≤ t653) = true := decide_eq_true c37
                clear c37
                by_cases c38 : t653 < ((rdOf ByteArray.empty t661 t652).size : Int)
                ·rw [if_pos c38] at H
                 have c38b0 : decide (t653 < ((rdOf ByteArray.empty t661 t652).size : Int)) = true := decide_eq_true c38
                 clear c38
                 by_cases c40 : (bt (rdOf ByteArray.empty t661 t652) t653) = 63
                 ·rw [if_pos c40] at H
                  have c40b0 : ((bt (rdOf ByteArray.empty t661 t652) t653) == 63) = true := beq_iff_eq.mpr c40
                  have c40b1 : ((bt (rdOf ByteArray.empty t661 t652) t653) != 63) = false := bne_eq_false_iff_eq.mpr c40
                  clear c40
                  have H' := Aside0.mk H
                  clear H
                  obtain ⟨Ao41, co41, eo41⟩ := Kd.R_slice HO_9.out
                  subst eo41
                  as_aux_lemma =>
                   go_wp2_with (first | ((with_reducible refine gate_callee (f := 10) rfl ?_); refine gl_ 96 Try.func10 #[.slice Ao10 t651.length co10, .slice Ao41 t657.length co41] ?_; (with_reducible refine (impl_AgreeScans.calls kj7 _ _ t651 _ _ t657 true true _ ?_ ?_ ?_ ?_ A20.out).mono ?_); exact Z5 HO_5.out; exact (Kd.R_reads' HO_5.out).2.1; exact Z5 HO_9.out; exact (Kd.R_reads' HO_9.out).2.1; rintro e w' ⟨rfl, ⟨nd, rfl⟩⟩; refine ⟨_, rfl, ?_⟩) | ((with_reducible refine gate_callee (f := 11) rfl ?_); refine gl_ 102 Try.func11 #[.slice Ao41 t657.length co41, .slice Ao10 t651.length co10] ?_; (with_reducible refine (impl_MeetScans.calls kj7 _ _ t657 _ _ t651 t668 true _ ?_ ?_ ?_ ?_ A21.out).mono ?_); exact Z5 HO_9.out; exact (Kd.R_reads' HO_9.out).2.1; exact Z5 HO_5.out; exact (Kd.R_reads' HO_5.out).2.1; rintro e w42 ⟨v670, rfl, ho0, hb⟩; refine ⟨_, rfl, ?_⟩; refine k5_ (Kd.R_elder' (Z1 HO_5.out) (Kd.R_base ho0) hb) (Kd.R_elder' (Z1 HO_9.out) (Kd.R_base ho0) hb) (Kd.R_elder' (Z1 HO_11.out) (Kd.R_base ho0) hb) (Kd.R_lower (Kd.R_new' (Kd.R_new' (Kd.R_new' ho0 (Kd.R_lt (Z1 HO_5.out))) (Kd.R_lt (Z1 HO_9.out))) (Kd.R_lt (Z1 HO_11.out))) (below_size (Z2))) (below_step (Z2) hb) ?_; clear HO_5 HO_9 HO_11 HB; intro HO_5 HO_9 HO_11 HO671 HB; (try clear hb ho0)) | ((with_reducible refine gate_callee (f := 12) rfl ?_); refine gl_ 107 Try.func12 #[.slice Ao10 t651.length co10] ?_; (with_reducible refine (impl_CountStains.calls kj7 _ _ t651 t672 true _ ?_ ?_ A22.out).mono ?_); exact Z5 HO_5.out; exact (Kd.R_reads' HO_5.out).2.1; rintro e w' ⟨rfl, ⟨nd, rfl⟩⟩; refine ⟨_, rfl, ?_⟩) | ((with_reducible refine gate_callee (f := 12) rfl ?_); refine gl_ 112 Try.func12 #[.slice Ao41 t657.length co41] ?_; (with_reducible refine (impl_CountStains.calls kj7 _ _ t657 t674 true _ ?_ ?_ A23.out).mono ?_); exact Z5 HO_9.out; exact (Kd.R_reads' HO_9.out).2.1; rintro e w' ⟨rfl, ⟨nd, rfl⟩⟩; refine ⟨_, rfl, ?_⟩; obtain ⟨Ao43, co43, eo43⟩ := Kd.R_slice HO671.out; subst eo43) | (go_at_call 9; (with_reducible refine (laws_pSameTexts.calls kj7 _ _ t668 _ _ t651 true _ ?_ ?_ ?_ ?_ A27.out).mono ?_); exact Z5 HO671.out; exact (Kd.R_reads' HO671.out).2.1; exact Z5 HO_5.out; exact (Kd.R_reads' HO_5.out).2.1; rintro e w' ⟨rfl, ⟨nd, rfl⟩⟩; obtain ⟨Ao44, co44, eo44⟩ := Kd.R_slice HO_11.out; subst eo44; have p677 : 0 ≤ (t652 : Int) := of_decide_eq_true (Z8); have q677 : t652 < (t661.length : Int) := of_decide_eq_true (Z8); obtain ⟨ad677, e677, hx677_0⟩ := Kd.at_string (Kd.R_reads' HO_11.out).2.2 t652 p677 q677; cases e677; replace p677 := eq_true p677; replace q677 := eq_true q677; have p39 : 0 ≤ (t653 : Int) := of_decide_eq_true (Z8); have q39 : t653 < ((rdOf ByteArray.empty t661 t652).size : Int) := of_decide_eq_true (Z8); have hx39 := bt_at (rdOf ByteArray.empty t661 t652) t653; replace p39 := eq_true p39; replace q39 := eq_true q39))
                   (refine Met.intro ?_; go_step; (repeat (first | apply ex_32 | apply ex_8 | apply Exists.intro)); refine ⟨?rel, rfl⟩)
                   case rel => exact ⟨_, H', ⟨Z77 HJ7.out⟩, ⟨Z2⟩⟩
                 rw [if_neg c40] at H
                 have c40b0 : ((bt (rdOf ByteArray.empty t661 t652) t653) == 63) = false := beq_eq_false_iff_ne.mpr c40
                 have c40b1 : ((bt (rdOf ByteArray.empty t661 t652) t653) != 63) = true := bne_iff_ne.mpr c40
                 obtain rfl := Option.some.inj H
                 obtain ⟨Ao45, co45, eo45⟩ := Kd.R_slice HO_9.out
                 subst eo45
                 as_aux_lemma =>
                  go_wp2_with (first | ((with_reducible refine gate_callee (f := 10) rfl ?_); refine gl_ 96 Try.func10 #[.slice Ao10 t651.length co10, .slice Ao45 t657.length co45] ?_; (with_reducible refine (impl_AgreeScans.calls kj7 _ _ t651 _ _ t657 true true _ ?_ ?_ ?_ ?_ A20.out).mono ?_); exact Z5 HO_5.out; exact (Kd.R_reads' HO_5.out).2.1; exact Z5 HO_9.out; exact (Kd.R_reads' HO_9.out).2.1; rintro e w' ⟨rfl, ⟨nd, rfl⟩⟩; refine ⟨_, rfl, ?_⟩) | ((with_reducible refine gate_callee (f := 11) rfl ?_); refine gl_ 102 Try.func11 #[.slice Ao45 t657.length co45, .slice Ao10 t651.length co10] ?_; (with_reducible refine (impl_MeetScans.calls kj7 _ _ t657 _ _ t651 t668 true _ ?_ ?_ ?_ ?_ A21.out).mono ?_); exact Z5 HO_9.out; exact (Kd.R_reads' HO_9.out).2.1; exact Z5 HO_5.out; exact (Kd.R_reads' HO_5.out).2.1; rintro e w46 ⟨v670, rfl, ho0, hb⟩; refine ⟨_, rfl, ?_⟩; refine k5_ (Kd.R_elder' (Z1 HO_5.out) (Kd.R_base ho0) hb) (Kd.R_elder' (Z1 HO_9.out) (Kd.R_base ho0) hb) (Kd.R_elder' (Z1 HO_11.out) (Kd.R_base ho0) hb) (Kd.R_lower (Kd.R_new' (Kd.R_new' (Kd.R_new' ho0 (Kd.R_lt (Z1 HO_5.out))) (Kd.R_lt (Z1 HO_9.out))) (Kd.R_lt (Z1 HO_11.out))) (below_size (Z2))) (below_step (Z2) hb) ?_; clear HO_5 HO_9 HO_11 HB; intro HO_5 HO_9 HO_11 HO671 HB; (try clear hb ho0)) | ((with_reducible refine gate_callee (f := 12) rfl ?_); refine gl_ 107 Try.func12 #[.slice Ao10 t651.length co10] ?_; (with_reducible refine (impl_CountStains.calls kj7 _ _ t651 t672 true _ ?_ ?_ A22.out).mono ?_); exact Z5 HO_5.out; exact (Kd.R_reads' HO_5.out).2.1; rintro e w' ⟨rfl, ⟨nd, rfl⟩⟩; refine ⟨_, rfl, ?_⟩) | ((with_reducible refine gate_callee (f := 12) rfl ?_); refine gl_ 112 Try.func12 #[.slice Ao45 t657.length co45] ?_; (with_reducible refine (impl_CountStains.calls kj7 _ _ t657 t674 true _ ?_ ?_ A23.out).mono ?_); exact Z5 HO_9.out; exact (Kd.R_reads' HO_9.out).2.1; rintro e w' ⟨rfl, ⟨nd, rfl⟩⟩; refine ⟨_, rfl, ?_⟩; obtain ⟨Ao47, co47, eo47⟩ := Kd.R_slice HO671.out; subst eo47) | (go_at_call 9; (with_reducible refine (laws_pSameTexts.calls kj7 _ _ t668 _ _ t651 true _ ?_ ?_ ?_ ?_ A27.out).mono ?_); exact Z5 HO671.out; exact (Kd.R_reads' HO671.out).2.1; exact Z5 HO_5.out; exact (Kd.R_reads' HO_5.out).2.1; rintro e w' ⟨rfl, ⟨nd, rfl⟩⟩; obtain ⟨Ao48, co48, eo48⟩ := Kd.R_slice HO_11.out; subst eo48; have p677 : 0 ≤ (t652 : Int) := of_decide_eq_true (Z8); have q677 : t652 < (t661.length : Int) := of_decide_eq_true (Z8); obtain ⟨ad677, e677, hx677_0⟩ := Kd.at_string (Kd.R_reads' HO_11.out).2.2 t652 p677 q677; cases e677; replace p677 := eq_true p677; replace q677 := eq_true q677; have p39 : 0 ≤ (t653 : Int) := of_decide_eq_true (Z8); have q39 : t653 < ((rdOf ByteArray.empty t661 t652).size : Int) := of_decide_eq_true (Z8); have hx39 := bt_at (rdOf ByteArray.empty t661 t652) t653; replace p39 := eq_true p39; replace q39 := eq_true q39))
                  go_ret
                  exact ⟨Z11, Z2⟩
                rw [if_neg c38] at H
                exact absurd H (by simp)
               rw [if_neg c37] at H
               exact absurd H (by simp)
              rw [if_neg c36] at H
              exact absurd H (by simp)
             rw [if_neg c35] at H
             exact absurd H (by simp)
            replace c30 := Bool.eq_false_iff.mpr c30
            subst c30
            rw [if_neg (show ¬ (false = true) by decide)] at H
            obtain rfl := Option.some.inj H
            obtain ⟨Ao49, co49, eo49⟩ := Kd.R_slice HO_9.out
            subst eo49
            as_aux_lemma =>
             go_wp2_with (first | ((with_reducible refine gate_callee (f := 10) rfl ?_); refine gl_ 96 Try.func10 #[.slice Ao10 t651.length co10, .slice Ao49 t657.length co49] ?_; (with_reducible refine (impl_AgreeScans.calls kj7 _ _ t651 _ _ t657 true true _ ?_ ?_ ?_ ?_ A20.out).mono ?_); exact Z5 HO_5.out; exact (Kd.R_reads' HO_5.out).2.1; exact Z5 HO_9.out; exact (Kd.R_reads' HO_9.out).2.1; rintro e w' ⟨rfl, ⟨nd, rfl⟩⟩; refine ⟨_, rfl, ?_⟩) | ((with_reducible refine gate_callee (f := 11) rfl ?_); refine gl_ 102 Try.func11 #[.slice Ao49 t657.length co49, .slice Ao10 t651.length co10] ?_; (with_reducible refine (impl_MeetScans.calls kj7 _ _ t657 _ _ t651 t668 true _ ?_ ?_ ?_ ?_ A21.out).mono ?_); exact Z5 HO_9.out; exact (Kd.R_reads' HO_9.out).2.1; exact Z5 HO_5.out; exact (Kd.R_reads' HO_5.out).2.1; rintro e w50 ⟨v670, rfl, ho0, hb⟩; refine ⟨_, rfl, ?_⟩; refine k5_ (Kd.R_elder' (Z1 HO_5.out) (Kd.R_base ho0) hb) (Kd.R_elder' (Z1 HO_9.out) (Kd.R_base ho0) hb) (Kd.R_elder' (Z1 HO_11.out) (Kd.R_base ho0) hb) (Kd.R_lower (Kd.R_new' (Kd.R_new' (Kd.R_new' ho0 (Kd.R_lt (Z1 HO_5.out))) (Kd.R_lt (Z1 HO_9.out))) (Kd.R_lt (Z1 HO_11.out))) (below_size (Z2))) (below_step (Z2) hb) ?_; clear HO_5 HO_9 HO_11 HB; intro HO_5 HO_9 HO_11 HO671 HB; (try clear hb ho0)) | ((with_reducible refine gate_callee (f := 12) rfl ?_); refine gl_ 107 Try.func12 #[.slice Ao10 t651.length co10] ?_; (with_reducible refine (impl_CountStains.calls kj7 _ _ t651 t672 true _ ?_ ?_ A22.out).mono ?_); exact Z5 HO_5.out; exact (Kd.R_reads' HO_5.out).2.1; rintro e w' ⟨rfl, ⟨nd, rfl⟩⟩; refine ⟨_, rfl, ?_⟩) | ((with_reducible refine gate_callee (f := 12) rfl ?_); refine gl_ 112 Try.func12 #[.slice Ao49 t657.length co49] ?_; (with_reducible refine (impl_CountStains.calls kj7 _ _ t657 t674 false _ ?_ ?_ A23.out).mono ?_); exact Z5 HO_9.out; exact (Kd.R_reads' HO_9.out).2.1; rintro e w' ⟨rfl, ⟨nd, rfl⟩⟩; refine ⟨_, rfl, ?_⟩; obtain ⟨Ao51, co51, eo51⟩ := Kd.R_slice HO671.out; subst eo51) | (go_at_call 9; (with_reducible refine (laws_pSameTexts.calls kj7 _ _ t668 _ _ t651 true _ ?_ ?_ ?_ ?_ A27.out).mono ?_); exact Z5 HO671.out; exact (Kd.R_reads' HO671.out).2.1; exact Z5 HO_5.out; exact (Kd.R_reads' HO_5.out).2.1; rintro e w' ⟨rfl, ⟨nd, rfl⟩⟩))
             go_ret
             exact ⟨Z11, Z2⟩
           replace c29 := Bool.eq_false_iff.mpr c29
           subst c29
           rw [if_neg (show ¬ (false = true) by decide)] at H
           obtain rfl := Option.some.inj H
           obtain ⟨Ao52, co52, eo52⟩ := Kd.R_slice HO_9.out
           subst eo52
           as_aux_lemma =>
            go_wp2_with (first | ((with_reducible refine gate_callee (f := 10) rfl ?_); refine gl_ 96 Try.func10 #[.slice Ao10 t651.length co10, .slice Ao52 t657.length co52] ?_; (with_reducible refine (impl_AgreeScans.calls kj7 _ _ t651 _ _ t657 true true _ ?_ ?_ ?_ ?_ A20.out).mono ?_); exact Z5 HO_5.out; exact (Kd.R_reads' HO_5.out).2.1; exact Z5 HO_9.out; exact (Kd.R_reads' HO_9.out).2.1; rintro e w' ⟨rfl, ⟨nd, rfl⟩⟩; refine ⟨_, rfl, ?_⟩) | ((with_reducible refine gate_callee (f := 11) rfl ?_); refine gl_ 102 Try.func11 #[.slice Ao52 t657.length co52, .slice Ao10 t651.length co10] ?_; (with_reducible refine (impl_MeetScans.calls kj7 _ _ t657 _ _ t651 t668 true _ ?_ ?_ ?_ ?_ A21.out).mono ?_); exact Z5 HO_9.out; exact (Kd.R_reads' HO_9.out).2.1; exact Z5 HO_5.out; exact (Kd.R_reads' HO_5.out).2.1; rintro e w53 ⟨v670, rfl, ho0, hb⟩; refine ⟨_, rfl, ?_⟩; refine k5_ (Kd.R_elder' (Z1 HO_5.out) (Kd.R_base ho0) hb) (Kd.R_elder' (Z1 HO_9.out) (Kd.R_base ho0) hb) (Kd.R_elder' (Z1 HO_11.out) (Kd.R_base ho0) hb) (Kd.R_lower (Kd.R_new' (Kd.R_new' (Kd.R_new' ho0 (Kd.R_lt (Z1 HO_5.out))) (Kd.R_lt (Z1 HO_9.out))) (Kd.R_lt (Z1 HO_11.out))) (below_size (Z2))) (below_step (Z2) hb) ?_; clear HO_5 HO_9 HO_11 HB; intro HO_5 HO_9 HO_11 HO671 HB; (try clear hb ho0)) | ((with_reducible refine gate_callee (f := 12) rfl ?_); refine gl_ 107 Try.func12 #[.slice Ao10 t651.length co10] ?_; (with_reducible refine (impl_CountStains.calls kj7 _ _ t651 t672 false _ ?_ ?_ A22.out).mono ?_); exact Z5 HO_5.out; exact (Kd.R_reads' HO_5.out).2.1; rintro e w' ⟨rfl, ⟨nd, rfl⟩⟩; refine ⟨_, rfl, ?_⟩) | ((with_reducible refine gate_callee (f := 12) rfl ?_); refine gl_ 112 Try.func12 #[.slice Ao52 t657.length co52] ?_; (with_reducible refine (impl_CountStains.calls kj7 _ _ t657 t674 t675 _ ?_ ?_ A23.out).mono ?_); exact Z5 HO_9.out; exact (Kd.R_reads' HO_9.out).2.1; rintro e w' ⟨rfl, ⟨nd, rfl⟩⟩; refine ⟨_, rfl, ?_⟩; obtain ⟨Ao54, co54, eo54⟩ := Kd.R_slice HO671.out; subst eo54) | (go_at_call 9; (with_reducible refine (laws_pSameTexts.calls kj7 _ _ t668 _ _ t651 true _ ?_ ?_ ?_ ?_ A27.out).mono ?_); exact Z5 HO671.out; exact (Kd.R_reads' HO671.out).2.1; exact Z5 HO_5.out; exact (Kd.R_reads' HO_5.out).2.1; rintro e w' ⟨rfl, ⟨nd, rfl⟩⟩))
            go_ret
            exact ⟨Z11, Z2⟩
          replace c28 := Bool.eq_false_iff.mpr c28
          subst c28
          rw [if_neg (show ¬ (false = true) by decide)] at H
          obtain rfl := Option.some.inj H
          obtain ⟨Ao55, co55, eo55⟩ := Kd.R_slice HO_9.out
          subst eo55
          as_aux_lemma =>
           go_wp2_with (first | ((with_reducible refine gate_callee (f := 10) rfl ?_); refine gl_ 96 Try.func10 #[.slice Ao10 t651.length co10, .slice Ao55 t657.length co55] ?_; (with_reducible refine (impl_AgreeScans.calls kj7 _ _ t651 _ _ t657 true true _ ?_ ?_ ?_ ?_ A20.out).mono ?_); exact Z5 HO_5.out; exact (Kd.R_reads' HO_5.out).2.1; exact Z5 HO_9.out; exact (Kd.R_reads' HO_9.out).2.1; rintro e w' ⟨rfl, ⟨nd, rfl⟩⟩; refine ⟨_, rfl, ?_⟩) | ((with_reducible refine gate_callee (f := 11) rfl ?_); refine gl_ 102 Try.func11 #[.slice Ao55 t657.length co55, .slice Ao10 t651.length co10] ?_; (with_reducible refine (impl_MeetScans.calls kj7 _ _ t657 _ _ t651 t668 true _ ?_ ?_ ?_ ?_ A21.out).mono ?_); exact Z5 HO_9.out; exact (Kd.R_reads' HO_9.out).2.1; exact Z5 HO_5.out; exact (Kd.R_reads' HO_5.out).2.1; rintro e w56 ⟨v670, rfl, ho0, hb⟩; refine ⟨_, rfl, ?_⟩; refine k5_ (Kd.R_elder' (Z1 HO_5.out) (Kd.R_base ho0) hb) (Kd.R_elder' (Z1 HO_9.out) (Kd.R_base ho0) hb) (Kd.R_elder' (Z1 HO_11.out) (Kd.R_base ho0) hb) (Kd.R_lower (Kd.R_new' (Kd.R_new' (Kd.R_new' ho0 (Kd.R_lt (Z1 HO_5.out))) (Kd.R_lt (Z1 HO_9.out))) (Kd.R_lt (Z1 HO_11.out))) (below_size (Z2))) (below_step (Z2) hb) ?_; clear HO_5 HO_9 HO_11 HB; intro HO_5 HO_9 HO_11 HO671 HB; (try clear hb ho0)) | ((with_reducible refine gate_callee (f := 12) rfl ?_); refine gl_ 107 Try.func12 #[.slice Ao10 t651.length co10] ?_; (with_reducible refine (impl_CountStains.calls kj7 _ _ t651 t672 t673 _ ?_ ?_ A22.out).mono ?_); exact Z5 HO_5.out; exact (Kd.R_reads' HO_5.out).2.1; rintro e w' ⟨rfl, ⟨nd, rfl⟩⟩; refine ⟨_, rfl, ?_⟩) | ((with_reducible refine gate_callee (f := 12) rfl ?_); refine gl_ 112 Try.func12 #[.slice Ao55 t657.length co55] ?_; (with_reducible refine (impl_CountStains.calls kj7 _ _ t657 t674 t675 _ ?_ ?_ A23.out).mono ?_); exact Z5 HO_9.out; exact (Kd.R_reads' HO_9.out).2.1; rintro e w' ⟨rfl, ⟨nd, rfl⟩⟩; refine ⟨_, rfl, ?_⟩; obtain ⟨Ao57, co57, eo57⟩ := Kd.R_slice HO671.out; subst eo57) | (go_at_call 9; (with_reducible refine (laws_pSameTexts.calls kj7 _ _ t668 _ _ t651 false _ ?_ ?_ ?_ ?_ A27.out).mono ?_); exact Z5 HO671.out; exact (Kd.R_reads' HO671.out).2.1; exact Z5 HO_5.out; exact (Kd.R_reads' HO_5.out).2.1; rintro e w' ⟨rfl, ⟨nd, rfl⟩⟩))
           go_ret
           exact ⟨Z11, Z2⟩
         replace c26 := Bool.eq_false_iff.mpr c26
         subst c26
         rw [if_neg (show ¬ (false = true) by decide)] at H
         obtain rfl := Option.some.inj H
         obtain ⟨Ao58, co58, eo58⟩ := Kd.R_slice HO_9.out
         subst eo58
         as_aux_lemma =>
          go_wp2_with (first | ((with_reducible refine gate_callee (f := 10) rfl ?_); refine gl_ 96 Try.func10 #[.slice Ao10 t651.length co10, .slice Ao58 t657.length co58] ?_; (with_reducible refine (impl_AgreeScans.calls kj7 _ _ t651 _ _ t657 true true _ ?_ ?_ ?_ ?_ A20.out).mono ?_); exact Z5 HO_5.out; exact (Kd.R_reads' HO_5.out).2.1; exact Z5 HO_9.out; exact (Kd.R_reads' HO_9.out).2.1; rintro e w' ⟨rfl, ⟨nd, rfl⟩⟩; refine ⟨_, rfl, ?_⟩) | ((with_reducible refine gate_callee (f := 11) rfl ?_); refine gl_ 102 Try.func11 #[.slice Ao58 t657.length co58, .slice Ao10 t651.length co10] ?_; (with_reducible refine (impl_MeetScans.calls kj7 _ _ t657 _ _ t651 t668 false _ ?_ ?_ ?_ ?_ A21.out).mono ?_); exact Z5 HO_9.out; exact (Kd.R_reads' HO_9.out).2.1; exact Z5 HO_5.out; exact (Kd.R_reads' HO_5.out).2.1; rintro e w59 ⟨v670, rfl, ho0, hb⟩; refine ⟨_, rfl, ?_⟩; refine k5_ (Kd.R_elder' (Z1 HO_5.out) (Kd.R_base ho0) hb) (Kd.R_elder' (Z1 HO_9.out) (Kd.R_base ho0) hb) (Kd.R_elder' (Z1 HO_11.out) (Kd.R_base ho0) hb) (Kd.R_lower (Kd.R_new' (Kd.R_new' (Kd.R_new' ho0 (Kd.R_lt (Z1 HO_5.out))) (Kd.R_lt (Z1 HO_9.out))) (Kd.R_lt (Z1 HO_11.out))) (below_size (Z2))) (below_step (Z2) hb) ?_; clear HO_5 HO_9 HO_11 HB; intro HO_5 HO_9 HO_11 HO671 HB; (try clear hb ho0)) | ((with_reducible refine gate_callee (f := 12) rfl ?_); refine gl_ 107 Try.func12 #[.slice Ao10 t651.length co10] ?_; (with_reducible refine (impl_CountStains.calls kj7 _ _ t651 t672 t673 _ ?_ ?_ A22.out).mono ?_); exact Z5 HO_5.out; exact (Kd.R_reads' HO_5.out).2.1; rintro e w' ⟨rfl, ⟨nd, rfl⟩⟩; refine ⟨_, rfl, ?_⟩) | ((with_reducible refine gate_callee (f := 12) rfl ?_); refine gl_ 112 Try.func12 #[.slice Ao58 t657.length co58] ?_; (with_reducible refine (impl_CountStains.calls kj7 _ _ t657 t674 t675 _ ?_ ?_ A23.out).mono ?_); exact Z5 HO_9.out; exact (Kd.R_reads' HO_9.out).2.1; rintro e w' ⟨rfl, ⟨nd, rfl⟩⟩; refine ⟨_, rfl, ?_⟩))
          go_ret
          exact ⟨Z11, Z2⟩
        replace c25 := Bool.eq_false_iff.mpr c25
        subst c25
        rw [if_neg (show ¬ (false = true) by decide)] at H
        obtain rfl := Option.some.inj H
        obtain ⟨Ao60, co60, eo60⟩ := Kd.R_slice HO_9.out
        subst eo60
        as_aux_lemma =>
         go_wp2_with (first | ((with_reducible refine gate_callee (f := 10) rfl ?_); refine gl_ 96 Try.func10 #[.slice Ao10 t651.length co10, .slice Ao60 t657.length co60] ?_; (with_reducible refine (impl_AgreeScans.calls kj7 _ _ t651 _ _ t657 false true _ ?_ ?_ ?_ ?_ A20.out).mono ?_); exact Z5 HO_5.out; exact (Kd.R_reads' HO_5.out).2.1; exact Z5 HO_9.out; exact (Kd.R_reads' HO_9.out).2.1; rintro e w' ⟨rfl, ⟨nd, rfl⟩⟩; refine ⟨_, rfl, ?_⟩) | ((with_reducible refine gate_callee (f := 11) rfl ?_); refine gl_ 102 Try.func11 #[.slice Ao60 t657.length co60, .slice Ao10 t651.length co10] ?_; (with_reducible refine (impl_MeetScans.calls kj7 _ _ t657 _ _ t651 t668 t669 _ ?_ ?_ ?_ ?_ A21.out).mono ?_); exact Z5 HO_9.out; exact (Kd.R_reads' HO_9.out).2.1; exact Z5 HO_5.out; exact (Kd.R_reads' HO_5.out).2.1; rintro e w61 ⟨v670, rfl, ho0, hb⟩; refine ⟨_, rfl, ?_⟩; refine k5_ (Kd.R_elder' (Z1 HO_5.out) (Kd.R_base ho0) hb) (Kd.R_elder' (Z1 HO_9.out) (Kd.R_base ho0) hb) (Kd.R_elder' (Z1 HO_11.out) (Kd.R_base ho0) hb) (Kd.R_lower (Kd.R_new' (Kd.R_new' (Kd.R_new' ho0 (Kd.R_lt (Z1 HO_5.out))) (Kd.R_lt (Z1 HO_9.out))) (Kd.R_lt (Z1 HO_11.out))) (below_size (Z2))) (below_step (Z2) hb) ?_; clear HO_5 HO_9 HO_11 HB; intro HO_5 HO_9 HO_11 HO671 HB; (try clear hb ho0)) | ((with_reducible refine gate_callee (f := 12) rfl ?_); refine gl_ 107 Try.func12 #[.slice Ao10 t651.length co10] ?_; (with_reducible refine (impl_CountStains.calls kj7 _ _ t651 t672 t673 _ ?_ ?_ A22.out).mono ?_); exact Z5 HO_5.out; exact (Kd.R_reads' HO_5.out).2.1; rintro e w' ⟨rfl, ⟨nd, rfl⟩⟩; refine ⟨_, rfl, ?_⟩) | ((with_reducible refine gate_callee (f := 12) rfl ?_); refine gl_ 112 Try.func12 #[.slice Ao60 t657.length co60] ?_; (with_reducible refine (impl_CountStains.calls kj7 _ _ t657 t674 t675 _ ?_ ?_ A23.out).mono ?_); exact Z5 HO_9.out; exact (Kd.R_reads' HO_9.out).2.1; rintro e w' ⟨rfl, ⟨nd, rfl⟩⟩; refine ⟨_, rfl, ?_⟩))
         go_ret
         exact ⟨Z11, Z2⟩
       replace c24 := Bool.eq_false_iff.mpr c24
       subst c24
       rw [if_neg (show ¬ (false = true) by decide)] at H
       obtain rfl := Option.some.inj H
       obtain ⟨Ao62, co62, eo62⟩ := Kd.R_slice HO_9.out
       subst eo62
       as_aux_lemma =>
        go_wp2_with (first | ((with_reducible refine gate_callee (f := 10) rfl ?_); refine gl_ 96 Try.func10 #[.slice Ao10 t651.length co10, .slice Ao62 t657.length co62] ?_; (with_reducible refine (impl_AgreeScans.calls kj7 _ _ t651 _ _ t657 t666 false _ ?_ ?_ ?_ ?_ A20.out).mono ?_); exact Z5 HO_5.out; exact (Kd.R_reads' HO_5.out).2.1; exact Z5 HO_9.out; exact (Kd.R_reads' HO_9.out).2.1; rintro e w' ⟨rfl, ⟨nd, rfl⟩⟩; refine ⟨_, rfl, ?_⟩) | ((with_reducible refine gate_callee (f := 11) rfl ?_); refine gl_ 102 Try.func11 #[.slice Ao62 t657.length co62, .slice Ao10 t651.length co10] ?_; (with_reducible refine (impl_MeetScans.calls kj7 _ _ t657 _ _ t651 t668 t669 _ ?_ ?_ ?_ ?_ A21.out).mono ?_); exact Z5 HO_9.out; exact (Kd.R_reads' HO_9.out).2.1; exact Z5 HO_5.out; exact (Kd.R_reads' HO_5.out).2.1; rintro e w63 ⟨v670, rfl, ho0, hb⟩; refine ⟨_, rfl, ?_⟩; refine k5_ (Kd.R_elder' (Z1 HO_5.out) (Kd.R_base ho0) hb) (Kd.R_elder' (Z1 HO_9.out) (Kd.R_base ho0) hb) (Kd.R_elder' (Z1 HO_11.out) (Kd.R_base ho0) hb) (Kd.R_lower (Kd.R_new' (Kd.R_new' (Kd.R_new' ho0 (Kd.R_lt (Z1 HO_5.out))) (Kd.R_lt (Z1 HO_9.out))) (Kd.R_lt (Z1 HO_11.out))) (below_size (Z2))) (below_step (Z2) hb) ?_; clear HO_5 HO_9 HO_11 HB; intro HO_5 HO_9 HO_11 HO671 HB; (try clear hb ho0)) | ((with_reducible refine gate_callee (f := 12) rfl ?_); refine gl_ 107 Try.func12 #[.slice Ao10 t651.length co10] ?_; (with_reducible refine (impl_CountStains.calls kj7 _ _ t651 t672 t673 _ ?_ ?_ A22.out).mono ?_); exact Z5 HO_5.out; exact (Kd.R_reads' HO_5.out).2.1; rintro e w' ⟨rfl, ⟨nd, rfl⟩⟩; refine ⟨_, rfl, ?_⟩) | ((with_reducible refine gate_callee (f := 12) rfl ?_); refine gl_ 112 Try.func12 #[.slice Ao62 t657.length co62] ?_; (with_reducible refine (impl_CountStains.calls kj7 _ _ t657 t674 t675 _ ?_ ?_ A23.out).mono ?_); exact Z5 HO_9.out; exact (Kd.R_reads' HO_9.out).2.1; rintro e w' ⟨rfl, ⟨nd, rfl⟩⟩; refine ⟨_, rfl, ?_⟩))
        go_ret
        exact ⟨Z11, Z2⟩
      replace c19 := Bool.eq_false_iff.mpr c19
      subst c19
      rw [if_neg (show ¬ (false = true) by decide)] at H
      have H' := Aside0.mk H
      clear H
      as_aux_lemma =>
       go_wp2
       (refine Met.intro ?_; go_step; (repeat (first | apply ex_32 | apply ex_8 | apply Exists.intro)); refine ⟨?rel, rfl⟩)
       case rel => exact ⟨_, H', ⟨Z77 HJ7.out⟩, ⟨Z2⟩⟩
    case rest =>
     as_aux_lemma =>
      clear HC18
      (try clear c2); (try clear p3); (try clear q3); (try clear hx3); (try clear p6); (try clear q6); (try clear hx6); (try clear c10); (try clear c11); (try clear c12); (try clear c17); (try clear c19); (try clear c24); (try clear c25); (try clear c26); (try clear c28); (try clear c29); (try clear c30); (try clear c31); (try clear c31b0); (try clear c35); (try clear c35b0); (try clear c36); (try clear c36b0); (try clear c37); (try clear c37b0); (try clear c38); (try clear c38b0); (try clear p39); (try clear q39); (try clear hx39); (try clear c40); (try clear c40b0); (try clear c40b1); (try clear hx677_0); (try clear p677); (try clear q677)
      obtain ⟨kq, HA, HJ17, HB⟩ := hcut
      cases kq with
      | zero => exact absurd HA.out (by simp [laws_FnStains.j1])
      | succ kj17 =>
       have H := HA.out
       clear HA
       simp only [laws_FnStains.j1] at H
       replace H := Option.bind_eq_some_iff.mp H
       obtain ⟨⟨t678, t679⟩, A640, H⟩ := H
       (try dsimp only at H)
       have A64 := Aside0.mk A640
       clear A640
       replace H := Option.bind_eq_some_iff.mp H
       obtain ⟨⟨t684, t685⟩, A650, H⟩ := H
       (try dsimp only at H)
       have A65 := Aside0.mk A650
       clear A650
       replace H := Option.bind_eq_some_iff.mp H
       obtain ⟨⟨t688, t689⟩, A660, H⟩ := H
       (try dsimp only at H)
       have A66 := Aside0.mk A660
       clear A660
       replace H := Option.bind_eq_some_iff.mp H
       obtain ⟨⟨t692, t693⟩, A670, H⟩ := H
       (try dsimp only at H)
       have A67 := Aside0.mk A670
       clear A670
       replace H := Option.bind_eq_some_iff.mp H
       obtain ⟨⟨t694, t695⟩, A680, H⟩ := H
       (try dsimp only at H)
       have A68 := Aside0.mk A680
       clear A680
       have HC69 := Aside0.mk H
       clear H
       go_upto_region 20 with (first | ((with_reducible refine gate_callee (f := 13) rfl ?_); refine gl_ 155 Try.func13 #[.slice A1 l1.length c1] ?_; (with_reducible refine (spec_DrawMeetScans.calls kj17 _ _ l1 t678 t679 _ ?_ ?_ A64.out).mono ?_); exact Z13 HR1.out; exact HC1.out; rintro e w70 ⟨v680, v682, rfl, ho0, ho1, hb⟩; refine ⟨_, rfl, ?_⟩; refine k3_ (Kd.R_lower ho0 (below_size (Z2))) (Kd.R_lower ho1 (below_size (Z2))) (below_step (Z2) hb) ?_; clear HB; intro HO681 HO683 HB; (try clear hb ho0 ho1); obtain ⟨Ao71, co71, eo71⟩ := Kd.R_slice HO681.out; subst eo71; obtain ⟨Ao72, co72, eo72⟩ := Kd.R_slice HO683.out; subst eo72) | ((with_reducible refine gate_callee (f := 11) rfl ?_); refine gl_ 161 Try.func11 #[.slice Ao71 t678.length co71, .slice Ao72 t679.length co72] ?_; (with_reducible refine (impl_MeetScans.calls kj17 _ _ t678 _ _ t679 t684 t685 _ ?_ ?_ ?_ ?_ A65.out).mono ?_); exact Z5 HO681.out; exact (Kd.R_reads' HO681.out).2.1; exact Z5 HO683.out; exact (Kd.R_reads' HO683.out).2.1; rintro e w73 ⟨v686, rfl, ho0, hb⟩; refine ⟨_, rfl, ?_⟩; refine k4_ (Kd.R_elder' (Z1 HO681.out) (Kd.R_base ho0) hb) (Kd.R_elder' (Z1 HO683.out) (Kd.R_base ho0) hb) (Kd.R_lower (Kd.R_new' (Kd.R_new' ho0 (Kd.R_lt (Z1 HO681.out))) (Kd.R_lt (Z1 HO683.out))) (below_size (Z2))) (below_step (Z2) hb) ?_; clear HO681 HO683 HB; intro HO681 HO683 HO687 HB; (try clear hb ho0)) | ((with_reducible refine gate_callee (f := 14) rfl ?_); refine gl_ 167 Try.func14 #[.slice Ao71 t678.length co71, .slice Ao72 t679.length co72] ?_; (with_reducible refine (spec_MeetScans.calls kj17 _ _ t678 _ _ t679 t688 t689 _ ?_ ?_ ?_ ?_ A66.out).mono ?_); exact Z5 HO681.out; exact (Kd.R_reads' HO681.out).2.1; exact Z5 HO683.out; exact (Kd.R_reads' HO683.out).2.1; rintro e w74 ⟨v690, rfl, ho0, hb⟩; refine ⟨_, rfl, ?_⟩; refine k5_ (Kd.R_elder' (Z1 HO681.out) (Kd.R_base ho0) hb) (Kd.R_elder' (Z1 HO683.out) (Kd.R_base ho0) hb) (Kd.R_elder' (Z1 HO687.out) (Kd.R_base ho0) hb) (Kd.R_lower (Kd.R_new' (Kd.R_new' (Kd.R_new' ho0 (Kd.R_lt (Z1 HO681.out))) (Kd.R_lt (Z1 HO683.out))) (Kd.R_lt (Z1 HO687.out))) (below_size (Z2))) (below_step (Z2) hb) ?_; clear HO681 HO683 HO687 HB; intro HO681 HO683 HO687 HO691 HB; (try clear hb ho0)) | ((with_reducible refine gate_callee (f := 10) rfl ?_); refine gl_ 173 Try.func10 #[.slice Ao71 t678.length co71, .slice Ao72 t679.length co72] ?_; (with_reducible refine (impl_AgreeScans.calls kj17 _ _ t678 _ _ t679 t692 t693 _ ?_ ?_ ?_ ?_ A67.out).mono ?_); exact Z5 HO681.out; exact (Kd.R_reads' HO681.out).2.1; exact Z5 HO683.out; exact (Kd.R_reads' HO683.out).2.1; rintro e w' ⟨rfl, ⟨nd, rfl⟩⟩; refine ⟨_, rfl, ?_⟩) | ((with_reducible refine gate_callee (f := 15) rfl ?_); refine gl_ 179 Try.func15 #[.slice Ao71 t678.length co71, .slice Ao72 t679.length co72] ?_; (with_reducible refine (spec_AgreeScans.calls kj17 _ _ t678 _ _ t679 t694 t695 _ ?_ ?_ ?_ ?_ A68.out).mono ?_); exact Z5 HO681.out; exact (Kd.R_reads' HO681.out).2.1; exact Z5 HO683.out; exact (Kd.R_reads' HO683.out).2.1; rintro e w' ⟨rfl, ⟨nd, rfl⟩⟩; refine ⟨_, rfl, ?_⟩))
       (try simp only [Act.put, List.setIfInBounds_toArray, List.set_cons_zero, List.set_cons_succ])
       go_cut [208] (fun v208 wc => ∃ (kq : Nat) (x208_68 : Bool), v208 = .bool x208_68 ∧ Aside0 (laws_FnStains.j2 kq l1 t678 t679 t684 t685 t688 x208_68 = some r) ∧ Aside0 (kq ≤ kj17) ∧ Aside0 (Kd.R Kd.string 9 wc w.heap.size (fun k_ => some k_ ≠ ((.slice Ao72 t679.length co72) : Value).ownBlock ∧ some k_ ≠ (v686 : Value).ownBlock ∧ some k_ ≠ (v690 : Value).ownBlock) (.slice Ao71 t678.length co71) t678) ∧ Aside0 (Kd.R Kd.string 9 wc w.heap.size (fun k_ => some k_ ≠ ((.slice Ao71 t678.length co71) : Value).ownBlock ∧ some k_ ≠ (v686 : Value).ownBlock ∧ some k_ ≠ (v690 : Value).ownBlock) (.slice Ao72 t679.length co72) t679) ∧ Aside0 (Kd.R Kd.string 9 wc w.heap.size (fun k_ => some k_ ≠ ((.slice Ao71 t678.length co71) : Value).ownBlock ∧ some k_ ≠ ((.slice Ao72 t679.length co72) : Value).ownBlock ∧ some k_ ≠ (v690 : Value).ownBlock) v686 t684) ∧ Aside0 (Kd.R Kd.string 9 wc w.heap.size (fun k_ => some k_ ≠ ((.slice Ao71 t678.length co71) : Value).ownBlock ∧ some k_ ≠ ((.slice Ao72 t679.length co72) : Value).ownBlock ∧ some k_ ≠ (v686 : Value).ownBlock) v690 t688) ∧ Aside0 (Below w.heap.size w wc))
       case first =>
        as_aux_lemma =>
         have H := HC69.out
         clear HC69
         by_cases c75 : (t685 != t689) = true
         ·rw [if_pos c75] at H
          have c75b0 : (t685 != t689) = true := c75
          (try (have c75b1 : decide (t685 = t689) = false := by simpa using c75))
          (try (have c75b2 : (t685 == t689) = false := by simpa using c75))
          (try (have c75b3 : ¬ (t685 = t689) := by simpa using c75))
          clear c75
          (first | rw [c75b0] | (simp only [i64_w, i32_w]; rw [c75b0]) | skip)
          have H' := Aside0.mk H
          clear H
          as_aux_lemma =>
           go_wp2
           (refine Met.intro ?_; go_step; (repeat (first | apply ex_32 | apply ex_8 | apply Exists.intro)); refine ⟨?rel, rfl⟩)
           case rel => exact ⟨_, (true), (Z10), H', ⟨Z79⟩, ⟨Z37 HO681.out⟩, ⟨Z37 HO683.out⟩, ⟨Z31 HO687.out⟩, ⟨Z31 HO691.out⟩, ⟨Z2⟩⟩
         rw [if_neg c75] at H
         have c75b0 : (t685 != t689) = false := by simpa using c75
         (try (have c75b1 : decide (t685 = t689) = true := by simpa using c75))
         (try (have c75b2 : (t685 == t689) = true := by simpa using c75))
         clear c75
         (first | rw [c75b0] | (simp only [i64_w, i32_w]; rw [c75b0]) | skip)
         replace H := Option.bind_eq_some_iff.mp H
         obtain ⟨t696, A760, H⟩ := H
         (try dsimp only at H)
         have A76 := Aside0.mk A760
         clear A760
         by_cases c77 : t696 = true
         ·subst c77
          rw [if_pos rfl] at H
          by_cases c78 : (t693 != t695) = true
          ·rw [if_pos c78] at H
           have c78b0 : (t693 != t695) = true := c78
           (try (have c78b1 : decide (t693 = t695) = false := by simpa using c78))
           (try (have c78b2 : (t693 == t695) = false := by simpa using c78))
           (try (have c78b3 : ¬ (t693 = t695) := by simpa using c78))
           clear c78
           have H' := Aside0.mk H
           clear H
           obtain ⟨Ao79, co79, eo79⟩ := Kd.R_slice HO687.out
           subst eo79
           obtain ⟨Ao80, co80, eo80⟩ := Kd.R_slice HO691.out
           subst eo80
           as_aux_lemma =>
            go_wp2_with (first | (go_at_call 9; (with_reducible refine (laws_pSameTexts.calls kj17 _ _ t684 _ _ t688 true _ ?_ ?_ ?_ ?_ A76.out).mono ?_); exact Z5 HO687.out; exact (Kd.R_reads' HO687.out).2.1; exact Z5 HO691.out; exact (Kd.R_reads' HO691.out).2.1; rintro e w' ⟨rfl, ⟨nd, rfl⟩⟩))
            (refine Met.intro ?_; go_step; (repeat (first | apply ex_32 | apply ex_8 | apply Exists.intro)); refine ⟨?rel, rfl⟩)
            case rel => exact ⟨_, (true), (Z10), H', ⟨Z79⟩, ⟨Z37 HO681.out⟩, ⟨Z37 HO683.out⟩, ⟨Z31 HO687.out⟩, ⟨Z31 HO691.out⟩, ⟨Z2⟩⟩
          rw [if_neg c78] at H
          have c78b0 : (t693 != t695) = false := by simpa using c78
          (try (have c78b1 : decide (t693 = t695) = true := by simpa using c78))
          (try (have c78b2 : (t693 == t695) = true := by simpa using c78))
          clear c78
          by_cases c81 : (t692 != t694) = true
          ·rw [if_pos c81] at H
           have c81b0 : (t692 != t694) = true := c81
           (try (have c81b1 : decide (t692 = t694) = false := by simpa using c81))
           (try (have c81b2 : (t692 == t694) = false := by simpa using c81))
           (try (have c81b3 : ¬ (t692 = t694) := by simpa using c81))
           clear c81
           have H' := Aside0.mk H
           clear H
           obtain ⟨Ao82, co82, eo82⟩ := Kd.R_slice HO687.out
           subst eo82
           obtain ⟨Ao83, co83, eo83⟩ := Kd.R_slice HO691.out
           subst eo83
           as_aux_lemma =>
            go_wp2_with (first | (go_at_call 9; (with_reducible refine (laws_pSameTexts.calls kj17 _ _ t684 _ _ t688 true _ ?_ ?_ ?_ ?_ A76.out).mono ?_); exact Z5 HO687.out; exact (Kd.R_reads' HO687.out).2.1; exact Z5 HO691.out; exact (Kd.R_reads' HO691.out).2.1; rintro e w' ⟨rfl, ⟨nd, rfl⟩⟩))
            (refine Met.intro ?_; go_step; (repeat (first | apply ex_32 | apply ex_8 | apply Exists.intro)); refine ⟨?rel, rfl⟩)
            case rel => exact ⟨_, (true), (Z10), H', ⟨Z79⟩, ⟨Z37 HO681.out⟩, ⟨Z37 HO683.out⟩, ⟨Z31 HO687.out⟩, ⟨Z31 HO691.out⟩, ⟨Z2⟩⟩
          rw [if_neg c81] at H
          have c81b0 : (t692 != t694) = false := by simpa using c81
          (try (have c81b1 : decide (t692 = t694) = true := by simpa using c81))
          (try (have c81b2 : (t692 == t694) = true := by simpa using c81))
          clear c81
          by_cases c84 : t693 = true
          ·subst c84
           rw [if_pos rfl] at H
           have H' := Aside0.mk H
           clear H
           obtain ⟨Ao85, co85, eo85⟩ := Kd.R_slice HO687.out
           subst eo85
           obtain ⟨Ao86, co86, eo86⟩ := Kd.R_slice HO691.out
           subst eo86
           as_aux_lemma =>
            go_wp2_with (first | (go_at_call 9; (with_reducible refine (laws_pSameTexts.calls kj17 _ _ t684 _ _ t688 true _ ?_ ?_ ?_ ?_ A76.out).mono ?_); exact Z5 HO687.out; exact (Kd.R_reads' HO687.out).2.1; exact Z5 HO691.out; exact (Kd.R_reads' HO691.out).2.1; rintro e w' ⟨rfl, ⟨nd, rfl⟩⟩))
            (refine Met.intro ?_; go_step; (repeat (first | apply ex_32 | apply ex_8 | apply Exists.intro)); refine ⟨?rel, rfl⟩)
            case rel => exact ⟨_, ((t685 != t694)), (Z10), H', ⟨Z79⟩, ⟨Z37 HO681.out⟩, ⟨Z37 HO683.out⟩, ⟨Z31 HO687.out⟩, ⟨Z31 HO691.out⟩, ⟨Z2⟩⟩
          replace c84 := Bool.eq_false_iff.mpr c84
          subst c84
          rw [if_neg (show ¬ (false = true) by decide)] at H
          have H' := Aside0.mk H
          clear H
          obtain ⟨Ao87, co87, eo87⟩ := Kd.R_slice HO687.out
          subst eo87
          obtain ⟨Ao88, co88, eo88⟩ := Kd.R_slice HO691.out
          subst eo88
          as_aux_lemma =>
           go_wp2_with (first | (go_at_call 9; (with_reducible refine (laws_pSameTexts.calls kj17 _ _ t684 _ _ t688 true _ ?_ ?_ ?_ ?_ A76.out).mono ?_); exact Z5 HO687.out; exact (Kd.R_reads' HO687.out).2.1; exact Z5 HO691.out; exact (Kd.R_reads' HO691.out).2.1; rintro e w' ⟨rfl, ⟨nd, rfl⟩⟩))
           (refine Met.intro ?_; go_step; (repeat (first | apply ex_32 | apply ex_8 | apply Exists.intro)); refine ⟨?rel, rfl⟩)
           case rel => exact ⟨_, ((t685 != false)), (Z10), H', ⟨Z79⟩, ⟨Z37 HO681.out⟩, ⟨Z37 HO683.out⟩, ⟨Z31 HO687.out⟩, ⟨Z31 HO691.out⟩, ⟨Z2⟩⟩
         replace c77 := Bool.eq_false_iff.mpr c77
         subst c77
         rw [if_neg (show ¬ (false = true) by decide)] at H
         have H' := Aside0.mk H
         clear H
         obtain ⟨Ao89, co89, eo89⟩ := Kd.R_slice HO687.out
         subst eo89
         obtain ⟨Ao90, co90, eo90⟩ := Kd.R_slice HO691.out
         subst eo90
         as_aux_lemma =>
          go_wp2_with (first | (go_at_call 9; (with_reducible refine (laws_pSameTexts.calls kj17 _ _ t684 _ _ t688 false _ ?_ ?_ ?_ ?_ A76.out).mono ?_); exact Z5 HO687.out; exact (Kd.R_reads' HO687.out).2.1; exact Z5 HO691.out; exact (Kd.R_reads' HO691.out).2.1; rintro e w' ⟨rfl, ⟨nd, rfl⟩⟩))
          (refine Met.intro ?_; go_step; (repeat (first | apply ex_32 | apply ex_8 | apply Exists.intro)); refine ⟨?rel, rfl⟩)
          case rel => exact ⟨_, (true), (Z10), H', ⟨Z79⟩, ⟨Z37 HO681.out⟩, ⟨Z37 HO683.out⟩, ⟨Z31 HO687.out⟩, ⟨Z31 HO691.out⟩, ⟨Z2⟩⟩
       case rest =>
        as_aux_lemma =>
         clear HC69
         (try clear c14); (try clear c15); (try clear p67); (try clear q67); (try clear hx67); (try clear c75); (try clear c75b0); (try clear c75b1); (try clear c75b2); (try clear c77); (try clear c78); (try clear c78b0); (try clear c78b1); (try clear c78b2); (try clear c81); (try clear c81b0); (try clear c81b1); (try clear c81b2); (try clear c84)
         obtain ⟨kq, x208_68, rfl, HA, HJ68, HO_21, HO_22, HO_23, HO_25, HB⟩ := hcut
         cases kq with
         | zero => exact absurd HA.out (by simp [laws_FnStains.j2])
         | succ kj68 =>
          have H := HA.out
          clear HA
          simp only [laws_FnStains.j2] at H
          by_cases c91 : x208_68 = true
          ·subst c91
           rw [if_pos rfl] at H
           obtain rfl := Option.some.inj H
           as_aux_lemma =>
            go_wp2
            go_ret
            exact ⟨Z11, Z2⟩
          replace c91 := Bool.eq_false_iff.mpr c91
          subst c91
          rw [if_neg (show ¬ (false = true) by decide)] at H
          have HC92 := Aside0.mk H
          clear H
          go_upto_if 209 with (fail)
          go_cut [] (fun wc => ∃ (kq : Nat), Aside0 (laws_FnStains.j3 kq l1 = some r) ∧ Aside0 (kq ≤ kj68) ∧ Aside0 (Below w.heap.size w wc))
          case first =>
           as_aux_lemma =>
            have H := HC92.out
            clear HC92
            by_cases c93 : t685 = true
            ·subst c93
             rw [if_pos rfl] at H
             replace H := Option.bind_eq_some_iff.mp H
             obtain ⟨⟨t697, t698⟩, A940, H⟩ := H
             (try dsimp only at H)
             have A94 := Aside0.mk A940
             clear A940
             replace H := Option.bind_eq_some_iff.mp H
             obtain ⟨⟨t701, t702⟩, A950, H⟩ := H
             (try dsimp only at H)
             have A95 := Aside0.mk A950
             clear A950
             replace H := Option.bind_eq_some_iff.mp H
             obtain ⟨⟨t703, t704⟩, A960, H⟩ := H
             (try dsimp only at H)
             have A96 := Aside0.mk A960
             clear A960
             replace H := Option.bind_eq_some_iff.mp H
             obtain ⟨⟨t705, t706⟩, A970, H⟩ := H
             (try dsimp only at H)
             have A97 := Aside0.mk A970
             clear A970
             by_cases c98 : t698 = true
             ·subst c98
              rw [if_pos rfl] at H
              replace H := Option.bind_eq_some_iff.mp H
              obtain ⟨t707, A990, H⟩ := H
              (try dsimp only at H)
              have A99 := Aside0.mk A990
              clear A990
              by_cases c100 : t707 = true
              ·subst c100
               rw [if_pos rfl] at H
               by_cases c101 : t702 = true
               ·subst c101
                rw [if_pos rfl] at H
                by_cases c102 : t704 = true
                ·subst c102
                 rw [if_pos rfl] at H
                 by_cases c103 : t706 = true
                 ·subst c103
                  rw [if_pos rfl] at H
                  by_cases c104 : t701 > t703
                  ·rw [if_pos c104] at H
                   have c104b0 : decide (t703 < t701) = true := decide_eq_true c104
                   clear c104
                   (first | rw [c104b0] | (simp only [i64_w, i32_w]; rw [c104b0]) | skip)
                   obtain rfl := Option.some.inj H
                   as_aux_lemma =>
                    go_wp2_with (first | ((with_reducible refine gate_callee (f := 11) rfl ?_); refine gl_ 213 Try.func11 #[.slice Ao72 t679.length co72, .slice Ao71 t678.length co71] ?_; (with_reducible refine (impl_MeetScans.calls kj68 _ _ t679 _ _ t678 t697 true _ ?_ ?_ ?_ ?_ A94.out).mono ?_); exact Z5 HO_22.out; exact (Kd.R_reads' HO_22.out).2.1; exact Z5 HO_21.out; exact (Kd.R_reads' HO_21.out).2.1; rintro e w105 ⟨v699, rfl, ho0, hb⟩; refine ⟨_, rfl, ?_⟩; refine k6_ (Kd.R_elder' (Z1 HO_21.out) (Kd.R_base ho0) hb) (Kd.R_elder' (Z1 HO_22.out) (Kd.R_base ho0) hb) (Kd.R_elder' (Z1 HO_23.out) (Kd.R_base ho0) hb) (Kd.R_elder' (Z1 HO_25.out) (Kd.R_base ho0) hb) (Kd.R_lower (Kd.R_new' (Kd.R_new' (Kd.R_new' (Kd.R_new' ho0 (Kd.R_lt (Z1 HO_21.out))) (Kd.R_lt (Z1 HO_22.out))) (Kd.R_lt (Z1 HO_23.out))) (Kd.R_lt (Z1 HO_25.out))) (below_size (Z2))) (below_step (Z2) hb) ?_; clear HO_21 HO_22 HO_23 HO_25 HB; intro HO_21 HO_22 HO_23 HO_25 HO700 HB; (try clear hb ho0); obtain ⟨Ao106, co106, eo106⟩ := Kd.R_slice HO_23.out; subst eo106) | ((with_reducible refine gate_callee (f := 12) rfl ?_); refine gl_ 218 Try.func12 #[.slice Ao106 t684.length co106] ?_; (with_reducible refine (impl_CountStains.calls kj68 _ _ t684 t701 true _ ?_ ?_ A95.out).mono ?_); exact Z5 HO_23.out; exact (Kd.R_reads' HO_23.out).2.1; rintro e w' ⟨rfl, ⟨nd, rfl⟩⟩; refine ⟨_, rfl, ?_⟩) | ((with_reducible refine gate_callee (f := 12) rfl ?_); refine gl_ 223 Try.func12 #[.slice Ao71 t678.length co71] ?_; (with_reducible refine (impl_CountStains.calls kj68 _ _ t678 t703 true _ ?_ ?_ A96.out).mono ?_); exact Z5 HO_21.out; exact (Kd.R_reads' HO_21.out).2.1; rintro e w' ⟨rfl, ⟨nd, rfl⟩⟩; refine ⟨_, rfl, ?_⟩) | ((with_reducible refine gate_callee (f := 12) rfl ?_); refine gl_ 228 Try.func12 #[.slice Ao72 t679.length co72] ?_; (with_reducible refine (impl_CountStains.calls kj68 _ _ t679 t705 true _ ?_ ?_ A97.out).mono ?_); exact Z5 HO_22.out; exact (Kd.R_reads' HO_22.out).2.1; rintro e w' ⟨rfl, ⟨nd, rfl⟩⟩; refine ⟨_, rfl, ?_⟩; obtain ⟨Ao107, co107, eo107⟩ := Kd.R_slice HO700.out; subst eo107; obtain ⟨Ao108, co108, eo108⟩ := Kd.R_slice HO_25.out; subst eo108) | (go_at_call 9; (with_reducible refine (laws_pSameTexts.calls kj68 _ _ t697 _ _ t688 true _ ?_ ?_ ?_ ?_ A99.out).mono ?_); exact Z5 HO700.out; exact (Kd.R_reads' HO700.out).2.1; exact Z5 HO_25.out; exact (Kd.R_reads' HO_25.out).2.1; rintro e w' ⟨rfl, ⟨nd, rfl⟩⟩))
                    go_ret
                    exact ⟨Z11, Z2⟩
                  rw [if_neg c104] at H
                  have c104b0 : decide (t703 < t701) = false := decide_eq_false c104
                  clear c104
                  (first | rw [c104b0] | (simp only [i64_w, i32_w]; rw [c104b0]) | skip)
                  by_cases c109 : t701 > t705
                  ·rw [if_pos c109] at H
                   have c109b0 : decide (t705 < t701) = true := decide_eq_true c109
                   clear c109
                   obtain rfl := Option.some.inj H
                   as_aux_lemma =>
                    go_wp2_with (first | ((with_reducible refine gate_callee (f := 11) rfl ?_); refine gl_ 213 Try.func11 #[.slice Ao72 t679.length co72, .slice Ao71 t678.length co71] ?_; (with_reducible refine (impl_MeetScans.calls kj68 _ _ t679 _ _ t678 t697 true _ ?_ ?_ ?_ ?_ A94.out).mono ?_); exact Z5 HO_22.out; exact (Kd.R_reads' HO_22.out).2.1; exact Z5 HO_21.out; exact (Kd.R_reads' HO_21.out).2.1; rintro e w110 ⟨v699, rfl, ho0, hb⟩; refine ⟨_, rfl, ?_⟩; refine k6_ (Kd.R_elder' (Z1 HO_21.out) (Kd.R_base ho0) hb) (Kd.R_elder' (Z1 HO_22.out) (Kd.R_base ho0) hb) (Kd.R_elder' (Z1 HO_23.out) (Kd.R_base ho0) hb) (Kd.R_elder' (Z1 HO_25.out) (Kd.R_base ho0) hb) (Kd.R_lower (Kd.R_new' (Kd.R_new' (Kd.R_new' (Kd.R_new' ho0 (Kd.R_lt (Z1 HO_21.out))) (Kd.R_lt (Z1 HO_22.out))) (Kd.R_lt (Z1 HO_23.out))) (Kd.R_lt (Z1 HO_25.out))) (below_size (Z2))) (below_step (Z2) hb) ?_; clear HO_21 HO_22 HO_23 HO_25 HB; intro HO_21 HO_22 HO_23 HO_25 HO700 HB; (try clear hb ho0); obtain ⟨Ao111, co111, eo111⟩ := Kd.R_slice HO_23.out; subst eo111) | ((with_reducible refine gate_callee (f := 12) rfl ?_); refine gl_ 218 Try.func12 #[.slice Ao111 t684.length co111] ?_; (with_reducible refine (impl_CountStains.calls kj68 _ _ t684 t701 true _ ?_ ?_ A95.out).mono ?_); exact Z5 HO_23.out; exact (Kd.R_reads' HO_23.out).2.1; rintro e w' ⟨rfl, ⟨nd, rfl⟩⟩; refine ⟨_, rfl, ?_⟩) | ((with_reducible refine gate_callee (f := 12) rfl ?_); refine gl_ 223 Try.func12 #[.slice Ao71 t678.length co71] ?_; (with_reducible refine (impl_CountStains.calls kj68 _ _ t678 t703 true _ ?_ ?_ A96.out).mono ?_); exact Z5 HO_21.out; exact (Kd.R_reads' HO_21.out).2.1; rintro e w' ⟨rfl, ⟨nd, rfl⟩⟩; refine ⟨_, rfl, ?_⟩) | ((with_reducible refine gate_callee (f := 12) rfl ?_); refine gl_ 228 Try.func12 #[.slice Ao72 t679.length co72] ?_; (with_reducible refine (impl_CountStains.calls kj68 _ _ t679 t705 true _ ?_ ?_ A97.out).mono ?_); exact Z5 HO_22.out; exact (Kd.R_reads' HO_22.out).2.1; rintro e w' ⟨rfl, ⟨nd, rfl⟩⟩; refine ⟨_, rfl, ?_⟩; obtain ⟨Ao112, co112, eo112⟩ := Kd.R_slice HO700.out; subst eo112; obtain ⟨Ao113, co113, eo113⟩ := Kd.R_slice HO_25.out; subst eo113) | (go_at_call 9; (with_reducible refine (laws_pSameTexts.calls kj68 _ _ t697 _ _ t688 true _ ?_ ?_ ?_ ?_ A99.out).mono ?_); exact Z5 HO700.out; exact (Kd.R_reads' HO700.out).2.1; exact Z5 HO_25.out; exact (Kd.R_reads' HO_25.out).2.1; rintro e w' ⟨rfl, ⟨nd, rfl⟩⟩))
                    go_ret
                    exact ⟨Z11, Z2⟩
                  rw [if_neg c109] at H
                  have c109b0 : decide (t705 < t701) = false := decide_eq_false c109
                  clear c109
                  have H' := Aside0.mk H
                  clear H
                  as_aux_lemma =>
                   go_wp2_with (first | ((with_reducible refine gate_callee (f := 11) rfl ?_); refine gl_ 213 Try.func11 #[.slice Ao72 t679.length co72, .slice Ao71 t678.length co71] ?_; (with_reducible refine (impl_MeetScans.calls kj68 _ _ t679 _ _ t678 t697 true _ ?_ ?_ ?_ ?_ A94.out).mono ?_); exact Z5 HO_22.out; exact (Kd.R_reads' HO_22.out).2.1; exact Z5 HO_21.out; exact (Kd.R_reads' HO_21.out).2.1; rintro e w114 ⟨v699, rfl, ho0, hb⟩; refine ⟨_, rfl, ?_⟩; refine k6_ (Kd.R_elder' (Z1 HO_21.out) (Kd.R_base ho0) hb) (Kd.R_elder' (Z1 HO_22.out) (Kd.R_base ho0) hb) (Kd.R_elder' (Z1 HO_23.out) (Kd.R_base ho0) hb) (Kd.R_elder' (Z1 HO_25.out) (Kd.R_base ho0) hb) (Kd.R_lower (Kd.R_new' (Kd.R_new' (Kd.R_new' (Kd.R_new' ho0 (Kd.R_lt (Z1 HO_21.out))) (Kd.R_lt (Z1 HO_22.out))) (Kd.R_lt (Z1 HO_23.out))) (Kd.R_lt (Z1 HO_25.out))) (below_size (Z2))) (below_step (Z2) hb) ?_; clear HO_21 HO_22 HO_23 HO_25 HB; intro HO_21 HO_22 HO_23 HO_25 HO700 HB; (try clear hb ho0); obtain ⟨Ao115, co115, eo115⟩ := Kd.R_slice HO_23.out; subst eo115) | ((with_reducible refine gate_callee (f := 12) rfl ?_); refine gl_ 218 Try.func12 #[.slice Ao115 t684.length co115] ?_; (with_reducible refine (impl_CountStains.calls kj68 _ _ t684 t701 true _ ?_ ?_ A95.out).mono ?_); exact Z5 HO_23.out; exact (Kd.R_reads' HO_23.out).2.1; rintro e w' ⟨rfl, ⟨nd, rfl⟩⟩; refine ⟨_, rfl, ?_⟩) | ((with_reducible refine gate_callee (f := 12) rfl ?_); refine gl_ 223 Try.func12 #[.slice Ao71 t678.length co71] ?_; (with_reducible refine (impl_CountStains.calls kj68 _ _ t678 t703 true _ ?_ ?_ A96.out).mono ?_); exact Z5 HO_21.out; exact (Kd.R_reads' HO_21.out).2.1; rintro e w' ⟨rfl, ⟨nd, rfl⟩⟩; refine ⟨_, rfl, ?_⟩) | ((with_reducible refine gate_callee (f := 12) rfl ?_); refine gl_ 228 Try.func12 #[.slice Ao72 t679.length co72] ?_; (with_reducible refine (impl_CountStains.calls kj68 _ _ t679 t705 true _ ?_ ?_ A97.out).mono ?_); exact Z5 HO_22.out; exact (Kd.R_reads' HO_22.out).2.1; rintro e w' ⟨rfl, ⟨nd, rfl⟩⟩; refine ⟨_, rfl, ?_⟩; obtain ⟨Ao116, co116, eo116⟩ := Kd.R_slice HO700.out; subst eo116; obtain ⟨Ao117, co117, eo117⟩ := Kd.R_slice HO_25.out; subst eo117) | (go_at_call 9; (with_reducible refine (laws_pSameTexts.calls kj68 _ _ t697 _ _ t688 true _ ?_ ?_ ?_ ?_ A99.out).mono ?_); exact Z5 HO700.out; exact (Kd.R_reads' HO700.out).2.1; exact Z5 HO_25.out; exact (Kd.R_reads' HO_25.out).2.1; rintro e w' ⟨rfl, ⟨nd, rfl⟩⟩))
                   (refine Met.intro ?_; go_step; (repeat (first | apply ex_32 | apply ex_8 | apply Exists.intro)); refine ⟨?rel, rfl⟩)
                   case rel => exact ⟨_, H', ⟨by have := HJ7.out; have := HJ17.out; have := HJ68.out; first | omega | exact Nat.le_refl _⟩, ⟨Z2⟩⟩
                 replace c103 := Bool.eq_false_iff.mpr c103
                 subst c103
                 rw [if_neg (show ¬ (false = true) by decide)] at H
                 obtain rfl := Option.some.inj H
                 as_aux_lemma =>
                  go_wp2_with (first | ((with_reducible refine gate_callee (f := 11) rfl ?_); refine gl_ 213 Try.func11 #[.slice Ao72 t679.length co72, .slice Ao71 t678.length co71] ?_; (with_reducible refine (impl_MeetScans.calls kj68 _ _ t679 _ _ t678 t697 true _ ?_ ?_ ?_ ?_ A94.out).mono ?_); exact Z5 HO_22.out; exact (Kd.R_reads' HO_22.out).2.1; exact Z5 HO_21.out; exact (Kd.R_reads' HO_21.out).2.1; rintro e w118 ⟨v699, rfl, ho0, hb⟩; refine ⟨_, rfl, ?_⟩; refine k6_ (Kd.R_elder' (Z1 HO_21.out) (Kd.R_base ho0) hb) (Kd.R_elder' (Z1 HO_22.out) (Kd.R_base ho0) hb) (Kd.R_elder' (Z1 HO_23.out) (Kd.R_base ho0) hb) (Kd.R_elder' (Z1 HO_25.out) (Kd.R_base ho0) hb) (Kd.R_lower (Kd.R_new' (Kd.R_new' (Kd.R_new' (Kd.R_new' ho0 (Kd.R_lt (Z1 HO_21.out))) (Kd.R_lt (Z1 HO_22.out))) (Kd.R_lt (Z1 HO_23.out))) (Kd.R_lt (Z1 HO_25.out))) (below_size (Z2))) (below_step (Z2) hb) ?_; clear HO_21 HO_22 HO_23 HO_25 HB; intro HO_21 HO_22 HO_23 HO_25 HO700 HB; (try clear hb ho0); obtain ⟨Ao119, co119, eo119⟩ := Kd.R_slice HO_23.out; subst eo119) | ((with_reducible refine gate_callee (f := 12) rfl ?_); refine gl_ 218 Try.func12 #[.slice Ao119 t684.length co119] ?_; (with_reducible refine (impl_CountStains.calls kj68 _ _ t684 t701 true _ ?_ ?_ A95.out).mono ?_); exact Z5 HO_23.out; exact (Kd.R_reads' HO_23.out).2.1; rintro e w' ⟨rfl, ⟨nd, rfl⟩⟩; refine ⟨_, rfl, ?_⟩) | ((with_reducible refine gate_callee (f := 12) rfl ?_); refine gl_ 223 Try.func12 #[.slice Ao71 t678.length co71] ?_; (with_reducible refine (impl_CountStains.calls kj68 _ _ t678 t703 true _ ?_ ?_ A96.out).mono ?_); exact Z5 HO_21.out; exact (Kd.R_reads' HO_21.out).2.1; rintro e w' ⟨rfl, ⟨nd, rfl⟩⟩; refine ⟨_, rfl, ?_⟩) | ((with_reducible refine gate_callee (f := 12) rfl ?_); refine gl_ 228 Try.func12 #[.slice Ao72 t679.length co72] ?_; (with_reducible refine (impl_CountStains.calls kj68 _ _ t679 t705 false _ ?_ ?_ A97.out).mono ?_); exact Z5 HO_22.out; exact (Kd.R_reads' HO_22.out).2.1; rintro e w' ⟨rfl, ⟨nd, rfl⟩⟩; refine ⟨_, rfl, ?_⟩; obtain ⟨Ao120, co120, eo120⟩ := Kd.R_slice HO700.out; subst eo120; obtain ⟨Ao121, co121, eo121⟩ := Kd.R_slice HO_25.out; subst eo121) | (go_at_call 9; (with_reducible refine (laws_pSameTexts.calls kj68 _ _ t697 _ _ t688 true _ ?_ ?_ ?_ ?_ A99.out).mono ?_); exact Z5 HO700.out; exact (Kd.R_reads' HO700.out).2.1; exact Z5 HO_25.out; exact (Kd.R_reads' HO_25.out).2.1; rintro e w' ⟨rfl, ⟨nd, rfl⟩⟩))
                  go_ret
                  exact ⟨Z11, Z2⟩
                replace c102 := Bool.eq_false_iff.mpr c102
                subst c102
                rw [if_neg (show ¬ (false = true) by decide)] at H
                obtain rfl := Option.some.inj H
                as_aux_lemma =>
                 go_wp2_with (first | ((with_reducible refine gate_callee (f := 11) rfl ?_); refine gl_ 213 Try.func11 #[.slice Ao72 t679.length co72, .slice Ao71 t678.length co71] ?_; (with_reducible refine (impl_MeetScans.calls kj68 _ _ t679 _ _ t678 t697 true _ ?_ ?_ ?_ ?_ A94.out).mono ?_); exact Z5 HO_22.out; exact (Kd.R_reads' HO_22.out).2.1; exact Z5 HO_21.out; exact (Kd.R_reads' HO_21.out).2.1; rintro e w122 ⟨v699, rfl, ho0, hb⟩; refine ⟨_, rfl, ?_⟩; refine k6_ (Kd.R_elder' (Z1 HO_21.out) (Kd.R_base ho0) hb) (Kd.R_elder' (Z1 HO_22.out) (Kd.R_base ho0) hb) (Kd.R_elder' (Z1 HO_23.out) (Kd.R_base ho0) hb) (Kd.R_elder' (Z1 HO_25.out) (Kd.R_base ho0) hb) (Kd.R_lower (Kd.R_new' (Kd.R_new' (Kd.R_new' (Kd.R_new' ho0 (Kd.R_lt (Z1 HO_21.out))) (Kd.R_lt (Z1 HO_22.out))) (Kd.R_lt (Z1 HO_23.out))) (Kd.R_lt (Z1 HO_25.out))) (below_size (Z2))) (below_step (Z2) hb) ?_; clear HO_21 HO_22 HO_23 HO_25 HB; intro HO_21 HO_22 HO_23 HO_25 HO700 HB; (try clear hb ho0); obtain ⟨Ao123, co123, eo123⟩ := Kd.R_slice HO_23.out; subst eo123) | ((with_reducible refine gate_callee (f := 12) rfl ?_); refine gl_ 218 Try.func12 #[.slice Ao123 t684.length co123] ?_; (with_reducible refine (impl_CountStains.calls kj68 _ _ t684 t701 true _ ?_ ?_ A95.out).mono ?_); exact Z5 HO_23.out; exact (Kd.R_reads' HO_23.out).2.1; rintro e w' ⟨rfl, ⟨nd, rfl⟩⟩; refine ⟨_, rfl, ?_⟩) | ((with_reducible refine gate_callee (f := 12) rfl ?_); refine gl_ 223 Try.func12 #[.slice Ao71 t678.length co71] ?_; (with_reducible refine (impl_CountStains.calls kj68 _ _ t678 t703 false _ ?_ ?_ A96.out).mono ?_); exact Z5 HO_21.out; exact (Kd.R_reads' HO_21.out).2.1; rintro e w' ⟨rfl, ⟨nd, rfl⟩⟩; refine ⟨_, rfl, ?_⟩) | ((with_reducible refine gate_callee (f := 12) rfl ?_); refine gl_ 228 Try.func12 #[.slice Ao72 t679.length co72] ?_; (with_reducible refine (impl_CountStains.calls kj68 _ _ t679 t705 t706 _ ?_ ?_ A97.out).mono ?_); exact Z5 HO_22.out; exact (Kd.R_reads' HO_22.out).2.1; rintro e w' ⟨rfl, ⟨nd, rfl⟩⟩; refine ⟨_, rfl, ?_⟩; obtain ⟨Ao124, co124, eo124⟩ := Kd.R_slice HO700.out; subst eo124; obtain ⟨Ao125, co125, eo125⟩ := Kd.R_slice HO_25.out; subst eo125) | (go_at_call 9; (with_reducible refine (laws_pSameTexts.calls kj68 _ _ t697 _ _ t688 true _ ?_ ?_ ?_ ?_ A99.out).mono ?_); exact Z5 HO700.out; exact (Kd.R_reads' HO700.out).2.1; exact Z5 HO_25.out; exact (Kd.R_reads' HO_25.out).2.1; rintro e w' ⟨rfl, ⟨nd, rfl⟩⟩))
                 go_ret
                 exact ⟨Z11, Z2⟩
               replace c101 := Bool.eq_false_iff.mpr c101
               subst c101
               rw [if_neg (show ¬ (false = true) by decide)] at H
               obtain rfl := Option.some.inj H
               as_aux_lemma =>
                go_wp2_with (first | ((with_reducible refine gate_callee (f := 11) rfl ?_); refine gl_ 213 Try.func11 #[.slice Ao72 t679.length co72, .slice Ao71 t678.length co71] ?_; (with_reducible refine (impl_MeetScans.calls kj68 _ _ t679 _ _ t678 t697 true _ ?_ ?_ ?_ ?_ A94.out).mono ?_); exact Z5 HO_22.out; exact (Kd.R_reads' HO_22.out).2.1; exact Z5 HO_21.out; exact (Kd.R_reads' HO_21.out).2.1; rintro e w126 ⟨v699, rfl, ho0, hb⟩; refine ⟨_, rfl, ?_⟩; refine k6_ (Kd.R_elder' (Z1 HO_21.out) (Kd.R_base ho0) hb) (Kd.R_elder' (Z1 HO_22.out) (Kd.R_base ho0) hb) (Kd.R_elder' (Z1 HO_23.out) (Kd.R_base ho0) hb) (Kd.R_elder' (Z1 HO_25.out) (Kd.R_base ho0) hb) (Kd.R_lower (Kd.R_new' (Kd.R_new' (Kd.R_new' (Kd.R_new' ho0 (Kd.R_lt (Z1 HO_21.out))) (Kd.R_lt (Z1 HO_22.out))) (Kd.R_lt (Z1 HO_23.out))) (Kd.R_lt (Z1 HO_25.out))) (below_size (Z2))) (below_step (Z2) hb) ?_; clear HO_21 HO_22 HO_23 HO_25 HB; intro HO_21 HO_22 HO_23 HO_25 HO700 HB; (try clear hb ho0); obtain ⟨Ao127, co127, eo127⟩ := Kd.R_slice HO_23.out; subst eo127) | ((with_reducible refine gate_callee (f := 12) rfl ?_); refine gl_ 218 Try.func12 #[.slice Ao127 t684.length co127] ?_; (with_reducible refine (impl_CountStains.calls kj68 _ _ t684 t701 false _ ?_ ?_ A95.out).mono ?_); exact Z5 HO_23.out; exact (Kd.R_reads' HO_23.out).2.1; rintro e w' ⟨rfl, ⟨nd, rfl⟩⟩; refine ⟨_, rfl, ?_⟩) | ((with_reducible refine gate_callee (f := 12) rfl ?_); refine gl_ 223 Try.func12 #[.slice Ao71 t678.length co71] ?_; (with_reducible refine (impl_CountStains.calls kj68 _ _ t678 t703 t704 _ ?_ ?_ A96.out).mono ?_); exact Z5 HO_21.out; exact (Kd.R_reads' HO_21.out).2.1; rintro e w' ⟨rfl, ⟨nd, rfl⟩⟩; refine ⟨_, rfl, ?_⟩) | ((with_reducible refine gate_callee (f := 12) rfl ?_); refine gl_ 228 Try.func12 #[.slice Ao72 t679.length co72] ?_; (with_reducible refine (impl_CountStains.calls kj68 _ _ t679 t705 t706 _ ?_ ?_ A97.out).mono ?_); exact Z5 HO_22.out; exact (Kd.R_reads' HO_22.out).2.1; rintro e w' ⟨rfl, ⟨nd, rfl⟩⟩; refine ⟨_, rfl, ?_⟩; obtain ⟨Ao128, co128, eo128⟩ := Kd.R_slice HO700.out; subst eo128; obtain ⟨Ao129, co129, eo129⟩ := Kd.R_slice HO_25.out; subst eo129) | (go_at_call 9; (with_reducible refine (laws_pSameTexts.calls kj68 _ _ t697 _ _ t688 true _ ?_ ?_ ?_ ?_ A99.out).mono ?_); exact Z5 HO700.out; exact (Kd.R_reads' HO700.out).2.1; exact Z5 HO_25.out; exact (Kd.R_reads' HO_25.out).2.1; rintro e w' ⟨rfl, ⟨nd, rfl⟩⟩))
                go_ret
                exact ⟨Z11, Z2⟩
              replace c100 := Bool.eq_false_iff.mpr c100
              subst c100
              rw [if_neg (show ¬ (false = true) by decide)] at H
              obtain rfl := Option.some.inj H
              as_aux_lemma =>
               go_wp2_with (first | ((with_reducible refine gate_callee (f := 11) rfl ?_); refine gl_ 213 Try.func11 #[.slice Ao72 t679.length co72, .slice Ao71 t678.length co71] ?_; (with_reducible refine (impl_MeetScans.calls kj68 _ _ t679 _ _ t678 t697 true _ ?_ ?_ ?_ ?_ A94.out).mono ?_); exact Z5 HO_22.out; exact (Kd.R_reads' HO_22.out).2.1; exact Z5 HO_21.out; exact (Kd.R_reads' HO_21.out).2.1; rintro e w130 ⟨v699, rfl, ho0, hb⟩; refine ⟨_, rfl, ?_⟩; refine k6_ (Kd.R_elder' (Z1 HO_21.out) (Kd.R_base ho0) hb) (Kd.R_elder' (Z1 HO_22.out) (Kd.R_base ho0) hb) (Kd.R_elder' (Z1 HO_23.out) (Kd.R_base ho0) hb) (Kd.R_elder' (Z1 HO_25.out) (Kd.R_base ho0) hb) (Kd.R_lower (Kd.R_new' (Kd.R_new' (Kd.R_new' (Kd.R_new' ho0 (Kd.R_lt (Z1 HO_21.out))) (Kd.R_lt (Z1 HO_22.out))) (Kd.R_lt (Z1 HO_23.out))) (Kd.R_lt (Z1 HO_25.out))) (below_size (Z2))) (below_step (Z2) hb) ?_; clear HO_21 HO_22 HO_23 HO_25 HB; intro HO_21 HO_22 HO_23 HO_25 HO700 HB; (try clear hb ho0); obtain ⟨Ao131, co131, eo131⟩ := Kd.R_slice HO_23.out; subst eo131) | ((with_reducible refine gate_callee (f := 12) rfl ?_); refine gl_ 218 Try.func12 #[.slice Ao131 t684.length co131] ?_; (with_reducible refine (impl_CountStains.calls kj68 _ _ t684 t701 t702 _ ?_ ?_ A95.out).mono ?_); exact Z5 HO_23.out; exact (Kd.R_reads' HO_23.out).2.1; rintro e w' ⟨rfl, ⟨nd, rfl⟩⟩; refine ⟨_, rfl, ?_⟩) | ((with_reducible refine gate_callee (f := 12) rfl ?_); refine gl_ 223 Try.func12 #[.slice Ao71 t678.length co71] ?_; (with_reducible refine (impl_CountStains.calls kj68 _ _ t678 t703 t704 _ ?_ ?_ A96.out).mono ?_); exact Z5 HO_21.out; exact (Kd.R_reads' HO_21.out).2.1; rintro e w' ⟨rfl, ⟨nd, rfl⟩⟩; refine ⟨_, rfl, ?_⟩) | ((with_reducible refine gate_callee (f := 12) rfl ?_); refine gl_ 228 Try.func12 #[.slice Ao72 t679.length co72] ?_; (with_reducible refine (impl_CountStains.calls kj68 _ _ t679 t705 t706 _ ?_ ?_ A97.out).mono ?_); exact Z5 HO_22.out; exact (Kd.R_reads' HO_22.out).2.1; rintro e w' ⟨rfl, ⟨nd, rfl⟩⟩; refine ⟨_, rfl, ?_⟩; obtain ⟨Ao132, co132, eo132⟩ := Kd.R_slice HO700.out; subst eo132; obtain ⟨Ao133, co133, eo133⟩ := Kd.R_slice HO_25.out; subst eo133) | (go_at_call 9; (with_reducible refine (laws_pSameTexts.calls kj68 _ _ t697 _ _ t688 false _ ?_ ?_ ?_ ?_ A99.out).mono ?_); exact Z5 HO700.out; exact (Kd.R_reads' HO700.out).2.1; exact Z5 HO_25.out; exact (Kd.R_reads' HO_25.out).2.1; rintro e w' ⟨rfl, ⟨nd, rfl⟩⟩))
               go_ret
               exact ⟨Z11, Z2⟩
             replace c98 := Bool.eq_false_iff.mpr c98
             subst c98
             rw [if_neg (show ¬ (false = true) by decide)] at H
             obtain rfl := Option.some.inj H
             as_aux_lemma =>
              go_wp2_with (first | ((with_reducible refine gate_callee (f := 11) rfl ?_); refine gl_ 213 Try.func11 #[.slice Ao72 t679.length co72, .slice Ao71 t678.length co71] ?_; (with_reducible refine (impl_MeetScans.calls kj68 _ _ t679 _ _ t678 t697 false _ ?_ ?_ ?_ ?_ A94.out).mono ?_); exact Z5 HO_22.out; exact (Kd.R_reads' HO_22.out).2.1; exact Z5 HO_21.out; exact (Kd.R_reads' HO_21.out).2.1; rintro e w134 ⟨v699, rfl, ho0, hb⟩; refine ⟨_, rfl, ?_⟩; refine k6_ (Kd.R_elder' (Z1 HO_21.out) (Kd.R_base ho0) hb) (Kd.R_elder' (Z1 HO_22.out) (Kd.R_base ho0) hb) (Kd.R_elder' (Z1 HO_23.out) (Kd.R_base ho0) hb) (Kd.R_elder' (Z1 HO_25.out) (Kd.R_base ho0) hb) (Kd.R_lower (Kd.R_new' (Kd.R_new' (Kd.R_new' (Kd.R_new' ho0 (Kd.R_lt (Z1 HO_21.out))) (Kd.R_lt (Z1 HO_22.out))) (Kd.R_lt (Z1 HO_23.out))) (Kd.R_lt (Z1 HO_25.out))) (below_size (Z2))) (below_step (Z2) hb) ?_; clear HO_21 HO_22 HO_23 HO_25 HB; intro HO_21 HO_22 HO_23 HO_25 HO700 HB; (try clear hb ho0); obtain ⟨Ao135, co135, eo135⟩ := Kd.R_slice HO_23.out; subst eo135) | ((with_reducible refine gate_callee (f := 12) rfl ?_); refine gl_ 218 Try.func12 #[.slice Ao135 t684.length co135] ?_; (with_reducible refine (impl_CountStains.calls kj68 _ _ t684 t701 t702 _ ?_ ?_ A95.out).mono ?_); exact Z5 HO_23.out; exact (Kd.R_reads' HO_23.out).2.1; rintro e w' ⟨rfl, ⟨nd, rfl⟩⟩; refine ⟨_, rfl, ?_⟩) | ((with_reducible refine gate_callee (f := 12) rfl ?_); refine gl_ 223 Try.func12 #[.slice Ao71 t678.length co71] ?_; (with_reducible refine (impl_CountStains.calls kj68 _ _ t678 t703 t704 _ ?_ ?_ A96.out).mono ?_); exact Z5 HO_21.out; exact (Kd.R_reads' HO_21.out).2.1; rintro e w' ⟨rfl, ⟨nd, rfl⟩⟩; refine ⟨_, rfl, ?_⟩) | ((with_reducible refine gate_callee (f := 12) rfl ?_); refine gl_ 228 Try.func12 #[.slice Ao72 t679.length co72] ?_; (with_reducible refine (impl_CountStains.calls kj68 _ _ t679 t705 t706 _ ?_ ?_ A97.out).mono ?_); exact Z5 HO_22.out; exact (Kd.R_reads' HO_22.out).2.1; rintro e w' ⟨rfl, ⟨nd, rfl⟩⟩; refine ⟨_, rfl, ?_⟩))
              go_ret
              exact ⟨Z11, Z2⟩
            replace c93 := Bool.eq_false_iff.mpr c93
            subst c93
            rw [if_neg (show ¬ (false = true) by decide)] at H
            have H' := Aside0.mk H
            clear H
            as_aux_lemma =>
             go_wp2
             (refine Met.intro ?_; go_step; (repeat (first | apply ex_32 | apply ex_8 | apply Exists.intro)); refine ⟨?rel, rfl⟩)
             case rel => exact ⟨_, H', ⟨by have := HJ7.out; have := HJ17.out; have := HJ68.out; first | omega | exact Nat.le_refl _⟩, ⟨Z2⟩⟩
          case rest =>
           as_aux_lemma =>
            clear HC92
            (try clear c9); (try clear c91); (try clear c93); (try clear c98); (try clear c100); (try clear c101); (try clear c102); (try clear c103); (try clear c104); (try clear c104b0); (try clear c109); (try clear c109b0)
            obtain ⟨kq, HA, HJ91, HB⟩ := hcut
            cases kq with
            | zero => exact absurd HA.out (by simp [laws_FnStains.j3])
            | succ kj91 =>
             have H := HA.out
             clear HA
             simp only [laws_FnStains.j3] at H
             replace H := Option.bind_eq_some_iff.mp H
             obtain ⟨⟨t708, t709⟩, A1360, H⟩ := H
             (try dsimp only at H)
             have A136 := Aside0.mk A1360
             clear A1360
             replace H := Option.bind_eq_some_iff.mp H
             obtain ⟨⟨t714, t715, t716⟩, A1370, H⟩ := H
             (try dsimp only at H)
             have A137 := Aside0.mk A1370
             clear A1370
             replace H := Option.bind_eq_some_iff.mp H
             obtain ⟨⟨t717, t718, t719⟩, A1380, H⟩ := H
             (try dsimp only at H)
             have A138 := Aside0.mk A1380
             clear A1380
             have HC139 := Aside0.mk H
             clear H
             go_upto_region 32 with (first | ((with_reducible refine gate_callee (f := 16) rfl ?_); refine gl_ 263 Try.func16 #[.slice A1 l1.length c1] ?_; (with_reducible refine (spec_DrawBestSkew.calls kj91 _ _ l1 t708 t709 _ ?_ ?_ A136.out).mono ?_); exact Z13 HR1.out; exact HC1.out; rintro e w140 ⟨v710, v712, rfl, ho0, ho1, hb⟩; refine ⟨_, rfl, ?_⟩; refine k3_ (Kd.R_lower ho0 (below_size (Z2))) (Kd.R_lower ho1 (below_size (Z2))) (below_step (Z2) hb) ?_; clear HB; intro HO711 HO713 HB; (try clear hb ho0 ho1); obtain ⟨Ao141, co141, eo141⟩ := Kd.R_slice HO711.out; subst eo141; obtain ⟨Ao142, co142, eo142⟩ := Kd.R_slice HO713.out; subst eo142) | ((with_reducible refine gate_callee (f := 17) rfl ?_); refine gl_ 269 Try.func17 #[.slice Ao141 t708.length co141, .slice Ao142 t709.length co142] ?_; (with_reducible refine (impl_BestSkew.calls kj91 _ _ t708 _ _ t709 t714 t715 t716 _ ?_ ?_ ?_ ?_ A137.out).mono ?_); exact Z5 HO711.out; exact (Kd.R_reads' HO711.out).2.1; exact Z5 HO713.out; exact (Kd.R_reads' HO713.out).2.1; rintro e w143 ⟨rfl, hb⟩; refine ⟨_, rfl, ?_⟩; refine k3_ (Kd.R_below (Z1 HO711.out) hb) (Kd.R_below (Z1 HO713.out) hb) (below_step (Z2) hb) ?_; clear HO711 HO713 HB; intro HO711 HO713 HB; (try clear hb)) | ((with_reducible refine gate_callee (f := 18) rfl ?_); refine gl_ 276 Try.func18 #[.slice Ao141 t708.length co141, .slice Ao142 t709.length co142] ?_; (with_reducible refine (spec_BestSkew.calls kj91 _ _ t708 _ _ t709 t717 t718 t719 _ ?_ ?_ ?_ ?_ A138.out).mono ?_); exact Z5 HO711.out; exact (Kd.R_reads' HO711.out).2.1; exact Z5 HO713.out; exact (Kd.R_reads' HO713.out).2.1; rintro e w144 ⟨rfl, hb⟩; refine ⟨_, rfl, ?_⟩; refine k3_ (Kd.R_below (Z1 HO711.out) hb) (Kd.R_below (Z1 HO713.out) hb) (below_step (Z2) hb) ?_; clear HO711 HO713 HB; intro HO711 HO713 HB; (try clear hb)))
             (try simp only [Act.put, List.setIfInBounds_toArray, List.set_cons_zero, List.set_cons_succ])
             go_cut [307] (fun v307 wc => ∃ (kq : Nat) (x307_138 : Bool), v307 = .bool x307_138 ∧ Aside0 (laws_FnStains.j4 kq l1 t708 t709 t716 t717 t718 x307_138 = some r) ∧ Aside0 (kq ≤ kj91) ∧ Aside0 (Kd.R Kd.string 9 wc w.heap.size (fun k_ => some k_ ≠ ((.slice Ao142 t709.length co142) : Value).ownBlock) (.slice Ao141 t708.length co141) t708) ∧ Aside0 (Kd.R Kd.string 9 wc w.heap.size (fun k_ => some k_ ≠ ((.slice Ao141 t708.length co141) : Value).ownBlock) (.slice Ao142 t709.length co142) t709) ∧ Aside0 (Below w.heap.size w wc))
             case first =>
              as_aux_lemma =>
               have H := HC139.out
               clear HC139
               by_cases c145 : (t716 != t719) = true
               ·rw [if_pos c145] at H
                have c145b0 : (t716 != t719) = true := c145
                (try (have c145b1 : decide (t716 = t719) = false := by simpa using c145))
                (try (have c145b2 : (t716 == t719) = false := by simpa using c145))
                (try (have c145b3 : ¬ (t716 = t719) := by simpa using c145))
                clear c145
                (first | rw [c145b0] | (simp only [i64_w, i32_w]; rw [c145b0]) | skip)
                have H' := Aside0.mk H
                clear H
                as_aux_lemma =>
                 go_wp2
                 (refine Met.intro ?_; go_step; (repeat (first | apply ex_32 | apply ex_8 | apply Exists.intro)); refine ⟨?rel, rfl⟩)
                 case rel => exact ⟨_, (true), (Z10), H', ⟨Z59⟩, ⟨Z1 HO711.out⟩, ⟨Z1 HO713.out⟩, ⟨Z2⟩⟩
               rw [if_neg c145] at H
               have c145b0 : (t716 != t719) = false := by simpa using c145
               (try (have c145b1 : decide (t716 = t719) = true := by simpa using c145))
               (try (have c145b2 : (t716 == t719) = true := by simpa using c145))
               clear c145
               (first | rw [c145b0] | (simp only [i64_w, i32_w]; rw [c145b0]) | skip)
               by_cases c146 : t714 = t717
               ·rw [if_pos c146] at H
                have c146b0 : (t714 == t717) = true := beq_iff_eq.mpr c146
                have c146b1 : (t714 != t717) = false := bne_eq_false_iff_eq.mpr c146
                clear c146
                by_cases c147 : t715 = t718
                ·rw [if_pos c147] at H
                 have c147b0 : (t715 == t718) = true := beq_iff_eq.mpr c147
                 have c147b1 : (t715 != t718) = false := bne_eq_false_iff_eq.mpr c147
                 clear c147
                 by_cases c148 : t716 = true
                 ·subst c148
                  rw [if_pos rfl] at H
                  by_cases c149 : t717 < (-10)
                  ·rw [if_pos c149] at H
                   have c149b0 : decide (t717 < (-10)) = true := decide_eq_true c149
                   clear c149
                   have H' := Aside0.mk H
                   clear H
                   as_aux_lemma =>
                    go_wp2
                    (refine Met.intro ?_; go_step; (repeat (first | apply ex_32 | apply ex_8 | apply Exists.intro)); refine ⟨?rel, rfl⟩)
                    case rel => exact ⟨_, (true), (Z10), H', ⟨Z59⟩, ⟨Z1 HO711.out⟩, ⟨Z1 HO713.out⟩, ⟨Z2⟩⟩
                  rw [if_neg c149] at H
                  have c149b0 : decide (t717 < (-10)) = false := decide_eq_false c149
                  clear c149
                  by_cases c150 : t717 > 10
                  ·rw [if_pos c150] at H
                   have c150b0 : decide (10 < t717) = true := decide_eq_true c150
                   clear c150
                   have H' := Aside0.mk H
                   clear H
                   as_aux_lemma =>
                    go_wp2
                    (refine Met.intro ?_; go_step; (repeat (first | apply ex_32 | apply ex_8 | apply Exists.intro)); refine ⟨?rel, rfl⟩)
                    case rel => exact ⟨_, (true), (Z10), H', ⟨Z59⟩, ⟨Z1 HO711.out⟩, ⟨Z1 HO713.out⟩, ⟨Z2⟩⟩
                  rw [if_neg c150] at H
                  have c150b0 : decide (10 < t717) = false := decide_eq_false c150
                  clear c150
                  have H' := Aside0.mk H
                  clear H
                  as_aux_lemma =>
                   go_wp2
                   (refine Met.intro ?_; go_step; (repeat (first | apply ex_32 | apply ex_8 | apply Exists.intro)); refine ⟨?rel, rfl⟩)
                   case rel => exact ⟨_, (decide (t718 < 0)), (Z10), H', ⟨Z59⟩, ⟨Z1 HO711.out⟩, ⟨Z1 HO713.out⟩, ⟨Z2⟩⟩
                 replace c148 := Bool.eq_false_iff.mpr c148
                 subst c148
                 rw [if_neg (show ¬ (false = true) by decide)] at H
                 have H' := Aside0.mk H
                 clear H
                 as_aux_lemma =>
                  go_wp2
                  (refine Met.intro ?_; go_step; (repeat (first | apply ex_32 | apply ex_8 | apply Exists.intro)); refine ⟨?rel, rfl⟩)
                  case rel => exact ⟨_, (false), (Z10), H', ⟨Z59⟩, ⟨Z1 HO711.out⟩, ⟨Z1 HO713.out⟩, ⟨Z2⟩⟩
                rw [if_neg c147] at H
                have c147b0 : (t715 == t718) = false := beq_eq_false_iff_ne.mpr c147
                have c147b1 : (t715 != t718) = true := bne_iff_ne.mpr c147
                have H' := Aside0.mk H
                clear H
                as_aux_lemma =>
                 go_wp2
                 (refine Met.intro ?_; go_step; (repeat (first | apply ex_32 | apply ex_8 | apply Exists.intro)); refine ⟨?rel, rfl⟩)
                 case rel => exact ⟨_, (true), (Z10), H', ⟨Z59⟩, ⟨Z1 HO711.out⟩, ⟨Z1 HO713.out⟩, ⟨Z2⟩⟩
               rw [if_neg c146] at H
               have c146b0 : (t714 == t717) = false := beq_eq_false_iff_ne.mpr c146
               have c146b1 : (t714 != t717) = true := bne_iff_ne.mpr c146
               have H' := Aside0.mk H
               clear H
               as_aux_lemma =>
                go_wp2
                (refine Met.intro ?_; go_step; (repeat (first | apply ex_32 | apply ex_8 | apply Exists.intro)); refine ⟨?rel, rfl⟩)
                case rel => exact ⟨_, (true), (Z10), H', ⟨Z59⟩, ⟨Z1 HO711.out⟩, ⟨Z1 HO713.out⟩, ⟨Z2⟩⟩
             case rest =>
              as_aux_lemma =>
               clear HC139
               (try clear c16); (try clear c18); (try clear c145); (try clear c145b0); (try clear c145b1); (try clear c145b2); (try clear c146); (try clear c146b0); (try clear c146b1); (try clear c147); (try clear c147b0); (try clear c147b1); (try clear c148); (try clear c149); (try clear c149b0); (try clear c150); (try clear c150b0)
               obtain ⟨kq, x307_138, rfl, HA, HJ138, HO_39, HO_40, HB⟩ := hcut
               cases kq with
               | zero => exact absurd HA.out (by simp [laws_FnStains.j4])
               | succ kj138 =>
                have H := HA.out
                clear HA
                simp only [laws_FnStains.j4] at H
                by_cases c151 : x307_138 = true
                ·subst c151
                 rw [if_pos rfl] at H
                 obtain rfl := Option.some.inj H
                 as_aux_lemma =>
                  go_wp2
                  go_ret
                  exact ⟨Z11, Z2⟩
                replace c151 := Bool.eq_false_iff.mpr c151
                subst c151
                rw [if_neg (show ¬ (false = true) by decide)] at H
                have HC152 := Aside0.mk H
                clear H
                go_upto_if 308 with (fail)
                go_cut [] (fun wc => ∃ (kq : Nat), Aside0 (laws_FnStains.j5 kq l1 = some r) ∧ Aside0 (kq ≤ kj138) ∧ Aside0 (Below w.heap.size w wc))
                case first =>
                 as_aux_lemma =>
                  have H := HC152.out
                  clear HC152
                  by_cases c153 : t716 = true
                  ·subst c153
                   rw [if_pos rfl] at H
                   replace H := Option.bind_eq_some_iff.mp H
                   obtain ⟨⟨t720, t721⟩, A1540, H⟩ := H
                   (try dsimp only at H)
                   have A154 := Aside0.mk A1540
                   clear A1540
                   replace H := Option.bind_eq_some_iff.mp H
                   obtain ⟨⟨t724, t725⟩, A1550, H⟩ := H
                   (try dsimp only at H)
                   have A155 := Aside0.mk A1550
                   clear A1550
                   by_cases c156 : t721 = true
                   ·subst c156
                    rw [if_pos rfl] at H
                    by_cases c157 : t725 = true
                    ·subst c157
                     rw [if_pos rfl] at H
                     by_cases c158 : (t724 != (t718 == 0)) = true
                     ·rw [if_pos c158] at H
                      have c158b0 : (t724 != (t718 == 0)) = true := c158
                      (try (have c158b1 : decide (t724 = (t718 == 0)) = false := by simpa using c158))
                      (try (have c158b2 : (t724 == (t718 == 0)) = false := by simpa using c158))
                      (try (have c158b3 : ¬ (t724 = (t718 == 0)) := by simpa using c158))
                      clear c158
                      (first | rw [c158b0] | (simp only [i64_w, i32_w]; rw [c158b0]) | skip)
                      obtain rfl := Option.some.inj H
                      as_aux_lemma =>
                       go_wp2_with (first | ((with_reducible refine gate_callee (f := 19) rfl ?_); refine gl_ 312 Try.func19 #[.slice Ao141 t708.length co141, .int .i64 t717] ?_; (with_reducible refine (impl_SkewScan.calls kj138 _ _ t708 t717 t720 true _ ?_ ?_ A154.out).mono ?_); exact Z5 HO_39.out; exact (Kd.R_reads' HO_39.out).2.1; rintro e w159 ⟨v722, rfl, ho0, hb⟩; refine ⟨_, rfl, ?_⟩; refine k4_ (Kd.R_elder' (Z1 HO_39.out) (Kd.R_base ho0) hb) (Kd.R_elder' (Z1 HO_40.out) (Kd.R_base ho0) hb) (Kd.R_lower (Kd.R_new' (Kd.R_new' ho0 (Kd.R_lt (Z1 HO_39.out))) (Kd.R_lt (Z1 HO_40.out))) (below_size (Z2))) (below_step (Z2) hb) ?_; clear HO_39 HO_40 HB; intro HO_39 HO_40 HO723 HB; (try clear hb ho0); obtain ⟨Ao160, co160, eo160⟩ := Kd.R_slice HO723.out; subst eo160) | ((with_reducible refine gate_callee (f := 10) rfl ?_); refine gl_ 318 Try.func10 #[.slice Ao160 t720.length co160, .slice Ao142 t709.length co142] ?_; (with_reducible refine (impl_AgreeScans.calls kj138 _ _ t720 _ _ t709 t724 true _ ?_ ?_ ?_ ?_ A155.out).mono ?_); exact Z5 HO723.out; exact (Kd.R_reads' HO723.out).2.1; exact Z5 HO_40.out; exact (Kd.R_reads' HO_40.out).2.1; rintro e w' ⟨rfl, ⟨nd, rfl⟩⟩; refine ⟨_, rfl, ?_⟩))
                       go_ret
                       exact ⟨Z11, Z2⟩
                     rw [if_neg c158] at H
                     have c158b0 : (t724 != (t718 == 0)) = false := by simpa using c158
                     (try (have c158b1 : decide (t724 = (t718 == 0)) = true := by simpa using c158))
                     (try (have c158b2 : (t724 == (t718 == 0)) = true := by simpa using c158))
                     clear c158
                     (first | rw [c158b0] | (simp only [i64_w, i32_w]; rw [c158b0]) | skip)
                     have H' := Aside0.mk H
                     clear H
                     as_aux_lemma =>
                      go_wp2_with (first | ((with_reducible refine gate_callee (f := 19) rfl ?_); refine gl_ 312 Try.func19 #[.slice Ao141 t708.length co141, .int .i64 t717] ?_; (with_reducible refine (impl_SkewScan.calls kj138 _ _ t708 t717 t720 true _ ?_ ?_ A154.out).mono ?_); exact Z5 HO_39.out; exact (Kd.R_reads' HO_39.out).2.1; rintro e w161 ⟨v722, rfl, ho0, hb⟩; refine ⟨_, rfl, ?_⟩; refine k4_ (Kd.R_elder' (Z1 HO_39.out) (Kd.R_base ho0) hb) (Kd.R_elder' (Z1 HO_40.out) (Kd.R_base ho0) hb) (Kd.R_lower (Kd.R_new' (Kd.R_new' ho0 (Kd.R_lt (Z1 HO_39.out))) (Kd.R_lt (Z1 HO_40.out))) (below_size (Z2))) (below_step (Z2) hb) ?_; clear HO_39 HO_40 HB; intro HO_39 HO_40 HO723 HB; (try clear hb ho0); obtain ⟨Ao162, co162, eo162⟩ := Kd.R_slice HO723.out; subst eo162) | ((with_reducible refine gate_callee (f := 10) rfl ?_); refine gl_ 318 Try.func10 #[.slice Ao162 t720.length co162, .slice Ao142 t709.length co142] ?_; (with_reducible refine (impl_AgreeScans.calls kj138 _ _ t720 _ _ t709 t724 true _ ?_ ?_ ?_ ?_ A155.out).mono ?_); exact Z5 HO723.out; exact (Kd.R_reads' HO723.out).2.1; exact Z5 HO_40.out; exact (Kd.R_reads' HO_40.out).2.1; rintro e w' ⟨rfl, ⟨nd, rfl⟩⟩; refine ⟨_, rfl, ?_⟩))
                      (refine Met.intro ?_; go_step; (repeat (first | apply ex_32 | apply ex_8 | apply Exists.intro)); refine ⟨?rel, rfl⟩)
                      case rel => exact ⟨_, H', ⟨Z97⟩, ⟨Z2⟩⟩
                    replace c157 := Bool.eq_false_iff.mpr c157
                    subst c157
                    rw [if_neg (show ¬ (false = true) by decide)] at H
                    obtain rfl := Option.some.inj H
                    as_aux_lemma =>
                     go_wp2_with (first | ((with_reducible refine gate_callee (f := 19) rfl ?_); refine gl_ 312 Try.func19 #[.slice Ao141 t708.length co141, .int .i64 t717] ?_; (with_reducible refine (impl_SkewScan.calls kj138 _ _ t708 t717 t720 true _ ?_ ?_ A154.out).mono ?_); exact Z5 HO_39.out; exact (Kd.R_reads' HO_39.out).2.1; rintro e w163 ⟨v722, rfl, ho0, hb⟩; refine ⟨_, rfl, ?_⟩; refine k4_ (Kd.R_elder' (Z1 HO_39.out) (Kd.R_base ho0) hb) (Kd.R_elder' (Z1 HO_40.out) (Kd.R_base ho0) hb) (Kd.R_lower (Kd.R_new' (Kd.R_new' ho0 (Kd.R_lt (Z1 HO_39.out))) (Kd.R_lt (Z1 HO_40.out))) (below_size (Z2))) (below_step (Z2) hb) ?_; clear HO_39 HO_40 HB; intro HO_39 HO_40 HO723 HB; (try clear hb ho0); obtain ⟨Ao164, co164, eo164⟩ := Kd.R_slice HO723.out; subst eo164) | ((with_reducible refine gate_callee (f := 10) rfl ?_); refine gl_ 318 Try.func10 #[.slice Ao164 t720.length co164, .slice Ao142 t709.length co142] ?_; (with_reducible refine (impl_AgreeScans.calls kj138 _ _ t720 _ _ t709 t724 false _ ?_ ?_ ?_ ?_ A155.out).mono ?_); exact Z5 HO723.out; exact (Kd.R_reads' HO723.out).2.1; exact Z5 HO_40.out; exact (Kd.R_reads' HO_40.out).2.1; rintro e w' ⟨rfl, ⟨nd, rfl⟩⟩; refine ⟨_, rfl, ?_⟩))
                     go_ret
                     exact ⟨Z11, Z2⟩
                   replace c156 := Bool.eq_false_iff.mpr c156
                   subst c156
                   rw [if_neg (show ¬ (false = true) by decide)] at H
                   obtain rfl := Option.some.inj H
                   as_aux_lemma =>
                    go_wp2_with (first | ((with_reducible refine gate_callee (f := 19) rfl ?_); refine gl_ 312 Try.func19 #[.slice Ao141 t708.length co141, .int .i64 t717] ?_; (with_reducible refine (impl_SkewScan.calls kj138 _ _ t708 t717 t720 false _ ?_ ?_ A154.out).mono ?_); exact Z5 HO_39.out; exact (Kd.R_reads' HO_39.out).2.1; rintro e w165 ⟨v722, rfl, ho0, hb⟩; refine ⟨_, rfl, ?_⟩; refine k4_ (Kd.R_elder' (Z1 HO_39.out) (Kd.R_base ho0) hb) (Kd.R_elder' (Z1 HO_40.out) (Kd.R_base ho0) hb) (Kd.R_lower (Kd.R_new' (Kd.R_new' ho0 (Kd.R_lt (Z1 HO_39.out))) (Kd.R_lt (Z1 HO_40.out))) (below_size (Z2))) (below_step (Z2) hb) ?_; clear HO_39 HO_40 HB; intro HO_39 HO_40 HO723 HB; (try clear hb ho0); obtain ⟨Ao166, co166, eo166⟩ := Kd.R_slice HO723.out; subst eo166) | ((with_reducible refine gate_callee (f := 10) rfl ?_); refine gl_ 318 Try.func10 #[.slice Ao166 t720.length co166, .slice Ao142 t709.length co142] ?_; (with_reducible refine (impl_AgreeScans.calls kj138 _ _ t720 _ _ t709 t724 t725 _ ?_ ?_ ?_ ?_ A155.out).mono ?_); exact Z5 HO723.out; exact (Kd.R_reads' HO723.out).2.1; exact Z5 HO_40.out; exact (Kd.R_reads' HO_40.out).2.1; rintro e w' ⟨rfl, ⟨nd, rfl⟩⟩; refine ⟨_, rfl, ?_⟩))
                    go_ret
                    exact ⟨Z11, Z2⟩
                  replace c153 := Bool.eq_false_iff.mpr c153
                  subst c153
                  rw [if_neg (show ¬ (false = true) by decide)] at H
                  have H' := Aside0.mk H
                  clear H
                  as_aux_lemma =>
                   go_wp2
                   (refine Met.intro ?_; go_step; (repeat (first | apply ex_32 | apply ex_8 | apply Exists.intro)); refine ⟨?rel, rfl⟩)
                   case rel => exact ⟨_, H', ⟨Z97⟩, ⟨Z2⟩⟩
                case rest =>
                 as_aux_lemma =>
                  clear HC152
                  (try clear c151); (try clear c153); (try clear c156); (try clear c157); (try clear c158); (try clear c158b0); (try clear c158b1); (try clear c158b2)
                  obtain ⟨kq, HA, HJ151, HB⟩ := hcut
                  cases kq with
                  | zero => exact absurd HA.out (by simp [laws_FnStains.j5])
                  | succ kj151 =>
                   have H := HA.out
                   clear HA
                   simp only [laws_FnStains.j5] at H
                   replace H := Option.bind_eq_some_iff.mp H
                   obtain ⟨⟨t726, t727⟩, A1670, H⟩ := H
                   (try dsimp only at H)
                   have A167 := Aside0.mk A1670
                   clear A1670
                   replace H := Option.bind_eq_some_iff.mp H
                   obtain ⟨⟨t730, t731⟩, A1680, H⟩ := H
                   (try dsimp only at H)
                   have A168 := Aside0.mk A1680
                   clear A1680
                   replace H := Option.bind_eq_some_iff.mp H
                   obtain ⟨⟨t734, t735⟩, A1690, H⟩ := H
                   (try dsimp only at H)
                   have A169 := Aside0.mk A1690
                   clear A1690
                   by_cases c170 : (t731 == t735) = true
                   ·rw [if_pos c170] at H
                    have c170b0 : (t731 == t735) = true := c170
                    (try (have c170b1 : decide (t731 = t735) = true := by simpa using c170))
                    (try (have c170b2 : (t731 == t735) = true := by simpa using c170))
                    clear c170
                    replace H := Option.bind_eq_some_iff.mp H
                    obtain ⟨t738, A1710, H⟩ := H
                    (try dsimp only at H)
                    have A171 := Aside0.mk A1710
                    clear A1710
                    by_cases c172 : t738 = true
                    ·subst c172
                     rw [if_pos rfl] at H
                     by_cases c173 : t731 = true
                     ·subst c173
                      rw [if_pos rfl] at H
                      by_cases c174 : t727 = 0
                      ·rw [if_pos c174] at H
                       have c174b0 : (t727 == 0) = true := beq_iff_eq.mpr c174
                       have c174b1 : (t727 != 0) = false := bne_eq_false_iff_eq.mpr c174
                       clear c174
                       replace H := Option.bind_eq_some_iff.mp H
                       obtain ⟨t739, A1750, H⟩ := H
                       replace H : (some t739) = some r := H
                       have A175 := Aside0.mk A1750
                       clear A1750
                       obtain rfl := Option.some.inj H
                       as_aux_lemma =>
                        go_wp2_with (first | ((with_reducible refine gate_callee (f := 20) rfl ?_); refine gl_ 335 Try.func20 #[.slice A1 l1.length c1] ?_; (with_reducible refine (spec_DrawSkewScan.calls kj151 _ _ l1 t726 t727 _ ?_ ?_ A167.out).mono ?_); exact Z13 HR1.out; exact HC1.out; rintro e w176 ⟨v728, rfl, ho0, hb⟩; refine ⟨_, rfl, ?_⟩; refine k2_ (Kd.R_lower ho0 (below_size (Z2))) (below_step (Z2) hb) ?_; clear HB; intro HO729 HB; (try clear hb ho0); obtain ⟨Ao177, co177, eo177⟩ := Kd.R_slice HO729.out; subst eo177) | ((with_reducible refine gate_callee (f := 19) rfl ?_); refine gl_ 341 Try.func19 #[.slice Ao177 t726.length co177, .int .i64 t727] ?_; (with_reducible refine (impl_SkewScan.calls kj151 _ _ t726 t727 t730 true _ ?_ ?_ A168.out).mono ?_); exact Z5 HO729.out; exact (Kd.R_reads' HO729.out).2.1; rintro e w178 ⟨v732, rfl, ho0, hb⟩; refine ⟨_, rfl, ?_⟩; refine k3_ (Kd.R_elder' (Z1 HO729.out) (Kd.R_base ho0) hb) (Kd.R_lower (Kd.R_new' ho0 (Kd.R_lt (Z1 HO729.out))) (below_size (Z2))) (below_step (Z2) hb) ?_; clear HO729 HB; intro HO729 HO733 HB; (try clear hb ho0)) | ((with_reducible refine gate_callee (f := 21) rfl ?_); refine gl_ 347 Try.func21 #[.slice Ao177 t726.length co177, .int .i64 t727] ?_; (with_reducible refine (spec_SkewScan.calls kj151 _ _ t726 t727 t734 t735 _ ?_ ?_ A169.out).mono ?_); exact Z5 HO729.out; exact (Kd.R_reads' HO729.out).2.1; rintro e w179 ⟨v736, rfl, ho0, hb⟩; refine ⟨_, rfl, ?_⟩; refine k4_ (Kd.R_elder' (Z1 HO729.out) (Kd.R_base ho0) hb) (Kd.R_elder' (Z1 HO733.out) (Kd.R_base ho0) hb) (Kd.R_lower (Kd.R_new' (Kd.R_new' ho0 (Kd.R_lt (Z1 HO729.out))) (Kd.R_lt (Z1 HO733.out))) (below_size (Z2))) (below_step (Z2) hb) ?_; clear HO729 HO733 HB; intro HO729 HO733 HO737 HB; (try clear hb ho0); obtain ⟨Ao180, co180, eo180⟩ := Kd.R_slice HO733.out; subst eo180; obtain ⟨Ao181, co181, eo181⟩ := Kd.R_slice HO737.out; subst eo181) | (go_at_call 9; (with_reducible refine (laws_pSameTexts.calls kj151 _ _ t730 _ _ t734 true _ ?_ ?_ ?_ ?_ A171.out).mono ?_); exact Z5 HO733.out; exact (Kd.R_reads' HO733.out).2.1; exact Z5 HO737.out; exact (Kd.R_reads' HO737.out).2.1; rintro e w' ⟨rfl, ⟨nd, rfl⟩⟩) | (go_at_call 9; (with_reducible refine (laws_pSameTexts.calls kj151 _ _ t734 _ _ t726 t739 _ ?_ ?_ ?_ ?_ A175.out).mono ?_); exact Z5 HO737.out; exact (Kd.R_reads' HO737.out).2.1; exact Z5 HO729.out; exact (Kd.R_reads' HO729.out).2.1; rintro e w' ⟨rfl, ⟨nd, rfl⟩⟩))
                        go_ret
                        exact ⟨Z11, Z2⟩
                      rw [if_neg c174] at H
                      have c174b0 : (t727 == 0) = false := beq_eq_false_iff_ne.mpr c174
                      have c174b1 : (t727 != 0) = true := bne_iff_ne.mpr c174
                      obtain rfl := Option.some.inj H
                      as_aux_lemma =>
                       go_wp2_with (first | ((with_reducible refine gate_callee (f := 20) rfl ?_); refine gl_ 335 Try.func20 #[.slice A1 l1.length c1] ?_; (with_reducible refine (spec_DrawSkewScan.calls kj151 _ _ l1 t726 t727 _ ?_ ?_ A167.out).mono ?_); exact Z13 HR1.out; exact HC1.out; rintro e w182 ⟨v728, rfl, ho0, hb⟩; refine ⟨_, rfl, ?_⟩; refine k2_ (Kd.R_lower ho0 (below_size (Z2))) (below_step (Z2) hb) ?_; clear HB; intro HO729 HB; (try clear hb ho0); obtain ⟨Ao183, co183, eo183⟩ := Kd.R_slice HO729.out; subst eo183) | ((with_reducible refine gate_callee (f := 19) rfl ?_); refine gl_ 341 Try.func19 #[.slice Ao183 t726.length co183, .int .i64 t727] ?_; (with_reducible refine (impl_SkewScan.calls kj151 _ _ t726 t727 t730 true _ ?_ ?_ A168.out).mono ?_); exact Z5 HO729.out; exact (Kd.R_reads' HO729.out).2.1; rintro e w184 ⟨v732, rfl, ho0, hb⟩; refine ⟨_, rfl, ?_⟩; refine k3_ (Kd.R_elder' (Z1 HO729.out) (Kd.R_base ho0) hb) (Kd.R_lower (Kd.R_new' ho0 (Kd.R_lt (Z1 HO729.out))) (below_size (Z2))) (below_step (Z2) hb) ?_; clear HO729 HB; intro HO729 HO733 HB; (try clear hb ho0)) | ((with_reducible refine gate_callee (f := 21) rfl ?_); refine gl_ 347 Try.func21 #[.slice Ao183 t726.length co183, .int .i64 t727] ?_; (with_reducible refine (spec_SkewScan.calls kj151 _ _ t726 t727 t734 t735 _ ?_ ?_ A169.out).mono ?_); exact Z5 HO729.out; exact (Kd.R_reads' HO729.out).2.1; rintro e w185 ⟨v736, rfl, ho0, hb⟩; refine ⟨_, rfl, ?_⟩; refine k4_ (Kd.R_elder' (Z1 HO729.out) (Kd.R_base ho0) hb) (Kd.R_elder' (Z1 HO733.out) (Kd.R_base ho0) hb) (Kd.R_lower (Kd.R_new' (Kd.R_new' ho0 (Kd.R_lt (Z1 HO729.out))) (Kd.R_lt (Z1 HO733.out))) (below_size (Z2))) (below_step (Z2) hb) ?_; clear HO729 HO733 HB; intro HO729 HO733 HO737 HB; (try clear hb ho0); obtain ⟨Ao186, co186, eo186⟩ := Kd.R_slice HO733.out; subst eo186; obtain ⟨Ao187, co187, eo187⟩ := Kd.R_slice HO737.out; subst eo187) | (go_at_call 9; (with_reducible refine (laws_pSameTexts.calls kj151 _ _ t730 _ _ t734 true _ ?_ ?_ ?_ ?_ A171.out).mono ?_); exact Z5 HO733.out; exact (Kd.R_reads' HO733.out).2.1; exact Z5 HO737.out; exact (Kd.R_reads' HO737.out).2.1; rintro e w' ⟨rfl, ⟨nd, rfl⟩⟩))
                       go_ret
                       exact ⟨Z11, Z2⟩
                     replace c173 := Bool.eq_false_iff.mpr c173
                     subst c173
                     rw [if_neg (show ¬ (false = true) by decide)] at H
                     obtain rfl := Option.some.inj H
                     as_aux_lemma =>
                      go_wp2_with (first | ((with_reducible refine gate_callee (f := 20) rfl ?_); refine gl_ 335 Try.func20 #[.slice A1 l1.length c1] ?_; (with_reducible refine (spec_DrawSkewScan.calls kj151 _ _ l1 t726 t727 _ ?_ ?_ A167.out).mono ?_); exact Z13 HR1.out; exact HC1.out; rintro e w188 ⟨v728, rfl, ho0, hb⟩; refine ⟨_, rfl, ?_⟩; refine k2_ (Kd.R_lower ho0 (below_size (Z2))) (below_step (Z2) hb) ?_; clear HB; intro HO729 HB; (try clear hb ho0); obtain ⟨Ao189, co189, eo189⟩ := Kd.R_slice HO729.out; subst eo189) | ((with_reducible refine gate_callee (f := 19) rfl ?_); refine gl_ 341 Try.func19 #[.slice Ao189 t726.length co189, .int .i64 t727] ?_; (with_reducible refine (impl_SkewScan.calls kj151 _ _ t726 t727 t730 false _ ?_ ?_ A168.out).mono ?_); exact Z5 HO729.out; exact (Kd.R_reads' HO729.out).2.1; rintro e w190 ⟨v732, rfl, ho0, hb⟩; refine ⟨_, rfl, ?_⟩; refine k3_ (Kd.R_elder' (Z1 HO729.out) (Kd.R_base ho0) hb) (Kd.R_lower (Kd.R_new' ho0 (Kd.R_lt (Z1 HO729.out))) (below_size (Z2))) (below_step (Z2) hb) ?_; clear HO729 HB; intro HO729 HO733 HB; (try clear hb ho0)) | ((with_reducible refine gate_callee (f := 21) rfl ?_); refine gl_ 347 Try.func21 #[.slice Ao189 t726.length co189, .int .i64 t727] ?_; (with_reducible refine (spec_SkewScan.calls kj151 _ _ t726 t727 t734 t735 _ ?_ ?_ A169.out).mono ?_); exact Z5 HO729.out; exact (Kd.R_reads' HO729.out).2.1; rintro e w191 ⟨v736, rfl, ho0, hb⟩; refine ⟨_, rfl, ?_⟩; refine k4_ (Kd.R_elder' (Z1 HO729.out) (Kd.R_base ho0) hb) (Kd.R_elder' (Z1 HO733.out) (Kd.R_base ho0) hb) (Kd.R_lower (Kd.R_new' (Kd.R_new' ho0 (Kd.R_lt (Z1 HO729.out))) (Kd.R_lt (Z1 HO733.out))) (below_size (Z2))) (below_step (Z2) hb) ?_; clear HO729 HO733 HB; intro HO729 HO733 HO737 HB; (try clear hb ho0); obtain ⟨Ao192, co192, eo192⟩ := Kd.R_slice HO733.out; subst eo192; obtain ⟨Ao193, co193, eo193⟩ := Kd.R_slice HO737.out; subst eo193) | (go_at_call 9; (with_reducible refine (laws_pSameTexts.calls kj151 _ _ t730 _ _ t734 true _ ?_ ?_ ?_ ?_ A171.out).mono ?_); exact Z5 HO733.out; exact (Kd.R_reads' HO733.out).2.1; exact Z5 HO737.out; exact (Kd.R_reads' HO737.out).2.1; rintro e w' ⟨rfl, ⟨nd, rfl⟩⟩))
                      go_ret
                      exact ⟨Z11, Z2⟩
                    replace c172 := Bool.eq_false_iff.mpr c172
                    subst c172
                    rw [if_neg (show ¬ (false = true) by decide)] at H
                    obtain rfl := Option.some.inj H
                    as_aux_lemma =>
                     go_wp2_with (first | ((with_reducible refine gate_callee (f := 20) rfl ?_); refine gl_ 335 Try.func20 #[.slice A1 l1.length c1] ?_; (with_reducible refine (spec_DrawSkewScan.calls kj151 _ _ l1 t726 t727 _ ?_ ?_ A167.out).mono ?_); exact Z13 HR1.out; exact HC1.out; rintro e w194 ⟨v728, rfl, ho0, hb⟩; refine ⟨_, rfl, ?_⟩; refine k2_ (Kd.R_lower ho0 (below_size (Z2))) (below_step (Z2) hb) ?_; clear HB; intro HO729 HB; (try clear hb ho0); obtain ⟨Ao195, co195, eo195⟩ := Kd.R_slice HO729.out; subst eo195) | ((with_reducible refine gate_callee (f := 19) rfl ?_); refine gl_ 341 Try.func19 #[.slice Ao195 t726.length co195, .int .i64 t727] ?_; (with_reducible refine (impl_SkewScan.calls kj151 _ _ t726 t727 t730 t731 _ ?_ ?_ A168.out).mono ?_); exact Z5 HO729.out; exact (Kd.R_reads' HO729.out).2.1; rintro e w196 ⟨v732, rfl, ho0, hb⟩; refine ⟨_, rfl, ?_⟩; refine k3_ (Kd.R_elder' (Z1 HO729.out) (Kd.R_base ho0) hb) (Kd.R_lower (Kd.R_new' ho0 (Kd.R_lt (Z1 HO729.out))) (below_size (Z2))) (below_step (Z2) hb) ?_; clear HO729 HB; intro HO729 HO733 HB; (try clear hb ho0)) | ((with_reducible refine gate_callee (f := 21) rfl ?_); refine gl_ 347 Try.func21 #[.slice Ao195 t726.length co195, .int .i64 t727] ?_; (with_reducible refine (spec_SkewScan.calls kj151 _ _ t726 t727 t734 t735 _ ?_ ?_ A169.out).mono ?_); exact Z5 HO729.out; exact (Kd.R_reads' HO729.out).2.1; rintro e w197 ⟨v736, rfl, ho0, hb⟩; refine ⟨_, rfl, ?_⟩; refine k4_ (Kd.R_elder' (Z1 HO729.out) (Kd.R_base ho0) hb) (Kd.R_elder' (Z1 HO733.out) (Kd.R_base ho0) hb) (Kd.R_lower (Kd.R_new' (Kd.R_new' ho0 (Kd.R_lt (Z1 HO729.out))) (Kd.R_lt (Z1 HO733.out))) (below_size (Z2))) (below_step (Z2) hb) ?_; clear HO729 HO733 HB; intro HO729 HO733 HO737 HB; (try clear hb ho0); obtain ⟨Ao198, co198, eo198⟩ := Kd.R_slice HO733.out; subst eo198; obtain ⟨Ao199, co199, eo199⟩ := Kd.R_slice HO737.out; subst eo199) | (go_at_call 9; (with_reducible refine (laws_pSameTexts.calls kj151 _ _ t730 _ _ t734 false _ ?_ ?_ ?_ ?_ A171.out).mono ?_); exact Z5 HO733.out; exact (Kd.R_reads' HO733.out).2.1; exact Z5 HO737.out; exact (Kd.R_reads' HO737.out).2.1; rintro e w' ⟨rfl, ⟨nd, rfl⟩⟩))
                     go_ret
                     exact ⟨Z11, Z2⟩
                   rw [if_neg c170] at H
                   have c170b0 : (t731 == t735) = false := by simpa using c170
                   (try (have c170b1 : decide (t731 = t735) = false := by simpa using c170))
                   (try (have c170b2 : (t731 == t735) = false := by simpa using c170))
                   (try (have c170b3 : ¬ (t731 = t735) := by simpa using c170))
                   clear c170
                   obtain rfl := Option.some.inj H
                   as_aux_lemma =>
                    go_wp2_with (first | ((with_reducible refine gate_callee (f := 20) rfl ?_); refine gl_ 335 Try.func20 #[.slice A1 l1.length c1] ?_; (with_reducible refine (spec_DrawSkewScan.calls kj151 _ _ l1 t726 t727 _ ?_ ?_ A167.out).mono ?_); exact Z13 HR1.out; exact HC1.out; rintro e w200 ⟨v728, rfl, ho0, hb⟩; refine ⟨_, rfl, ?_⟩; refine k2_ (Kd.R_lower ho0 (below_size (Z2))) (below_step (Z2) hb) ?_; clear HB; intro HO729 HB; (try clear hb ho0); obtain ⟨Ao201, co201, eo201⟩ := Kd.R_slice HO729.out; subst eo201) | ((with_reducible refine gate_callee (f := 19) rfl ?_); refine gl_ 341 Try.func19 #[.slice Ao201 t726.length co201, .int .i64 t727] ?_; (with_reducible refine (impl_SkewScan.calls kj151 _ _ t726 t727 t730 t731 _ ?_ ?_ A168.out).mono ?_); exact Z5 HO729.out; exact (Kd.R_reads' HO729.out).2.1; rintro e w202 ⟨v732, rfl, ho0, hb⟩; refine ⟨_, rfl, ?_⟩; refine k3_ (Kd.R_elder' (Z1 HO729.out) (Kd.R_base ho0) hb) (Kd.R_lower (Kd.R_new' ho0 (Kd.R_lt (Z1 HO729.out))) (below_size (Z2))) (below_step (Z2) hb) ?_; clear HO729 HB; intro HO729 HO733 HB; (try clear hb ho0)) | ((with_reducible refine gate_callee (f := 21) rfl ?_); refine gl_ 347 Try.func21 #[.slice Ao201 t726.length co201, .int .i64 t727] ?_; (with_reducible refine (spec_SkewScan.calls kj151 _ _ t726 t727 t734 t735 _ ?_ ?_ A169.out).mono ?_); exact Z5 HO729.out; exact (Kd.R_reads' HO729.out).2.1; rintro e w203 ⟨v736, rfl, ho0, hb⟩; refine ⟨_, rfl, ?_⟩; refine k4_ (Kd.R_elder' (Z1 HO729.out) (Kd.R_base ho0) hb) (Kd.R_elder' (Z1 HO733.out) (Kd.R_base ho0) hb) (Kd.R_lower (Kd.R_new' (Kd.R_new' ho0 (Kd.R_lt (Z1 HO729.out))) (Kd.R_lt (Z1 HO733.out))) (below_size (Z2))) (below_step (Z2) hb) ?_; clear HO729 HO733 HB; intro HO729 HO733 HO737 HB; (try clear hb ho0)))
                    go_ret
                    exact ⟨Z11, Z2⟩

/-- THE ONE PURE STATEMENT of laws_FnStains: yours. -/
def laws_FnStains.Pure : Prop := ∀ (l0 : List Int) (l1 : List Int), l0.length ≤ maxLen → l0.length * 1 ≤ 140737488351232 → (∀ x ∈ l0, (Lit.int .u8 x).wf = true) → l1.length ≤ maxLen → l1.length * 1 ≤ 140737488351232 → (∀ x ∈ l1, (Lit.int .u8 x).wf = true) → ∃ k, laws_FnStains.f k l0 l1 = some true
theorem laws_FnStains.walk (P : laws_FnStains.Pure) (a0 : Option Addr) (len0 cap0 : Nat) (z0 : List Int) (a1 : Option Addr) (len1 cap1 : Nat) (z1 : List Int) (w : World) (w0 : (a0 = none ∧ len0 = 0 ∧ cap0 = 0 ∧ z0 = []) ∨ ∃ x, a0 = some x ∧ len0 ≤ cap0 ∧ cap0 ≤ maxLen ∧ z0.length = cap0 ∧ (∀ i, i < z0.length → w.cell? (x.add i) = some (.int .u8 (z0.getD i 0))) ∧ ∀ n ∈ z0, (Lit.int .u8 n).wf = true) (y0 : len0 * 1 ≤ 140737488351232) (w1 : (a1 = none ∧ len1 = 0 ∧ cap1 = 0 ∧ z1 = []) ∨ ∃ x, a1 = some x ∧ len1 ≤ cap1 ∧ cap1 ≤ maxLen ∧ z1.length = cap1 ∧ (∀ i, i < z1.length → w.cell? (x.add i) = some (.int .u8 (z1.getD i 0))) ∧ ∀ n ∈ z1, (Lit.int .u8 n).wf = true) (y1 : len1 * 1 ≤ 140737488351232) :
  Calls Try.prog 3 #[.slice a0 len0 cap0, .slice a1 len1 cap1] w fun e w' => e = .returned (.bool true) ∧ Below w.heap.size w w' := by
 obtain ⟨l0, rfl, hr0, hm0, hw0, hc0⟩ := ReadsInt.ofRowC w0
 obtain ⟨l1, rfl, hr1, hm1, hw1, hc1⟩ := ReadsInt.ofRowC w1
 obtain ⟨k, h⟩ := P l0 l1 hm0 y0 hw0 hm1 y1 hw1
 refine (laws_FnStains.calls k _ _ l0 _ _ l1 true w (Kd.C_of_reads (d := (0 : Int)) (h1 := fun _ => rfl) hr0) hc0 (Kd.C_of_reads (d := (0 : Int)) (h1 := fun _ => rfl) hr1) hc1 h).mono ?_
 rintro e w' ⟨rfl, hd⟩
 exact ⟨rfl, hd⟩

end Go.Proofs.Ytmnnmddfmmaohaa.PFnStains
