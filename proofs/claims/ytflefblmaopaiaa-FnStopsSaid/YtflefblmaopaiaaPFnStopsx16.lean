-- written by a program of this session: the kit's print, with outer functions of the session's own (wip/ext)
import Derived.Test.YtflefblmaopaiaaPFnStopsx0
import Derived.Test.YtflefblmaopaiaaPFnStopsx8
import Derived.Test.YtflefblmaopaiaaPFnStopsx9
import Derived.Test.YtflefblmaopaiaaPFnStopsx11
import Derived.Test.YtflefblmaopaiaaPFnStopsx12
import Derived.Test.YtflefblmaopaiaaPFnStopsx13
import Derived.Test.YtflefblmaopaiaaPFnStopsx14
import Derived.Test.YtflefblmaopaiaaPFnStopsx15
namespace Go.Proofs.Ytflefblmaopaiaa.PFnStops
open Go.RowKit Go.Proofs.YtflefblmaopaiaaW.PrintWords Go.Proofs.YtflefblmaopaiaaW.PrintLast Go.Proofs.YtflefblmaopaiaaW.PrintMore
attribute [local go_sem] max2_int min2_int max_two min_two max_three min_three max_four min_four   -- for this text's walks alone
set_option linter.unusedVariables false
set_option linter.unusedSimpArgs false
theorem mo16_ {p : Prop} (h : p := by repeat' first | (with_reducible first | apply ih0 | apply ih0 | apply ih1 | apply ih1 | apply ih2 | apply ih2 | apply ih3 | apply ih3 | apply ih4 | apply ih4 | apply ih5 | apply ih5 | apply ih6 | apply ih6 | apply impl_BestMark.mono | apply impl_BestMark.mono | apply impl_IsSheet.mono | apply impl_IsSheet.mono | apply impl_MakeStrokes.mono | apply impl_MakeStrokes.mono | apply impl_NewPunchJob.mono | apply impl_NewPunchJob.mono | apply impl_ResumeAt.mono | apply impl_ResumeAt.mono | apply impl_RunWithStops.mono | apply impl_RunWithStops.mono | apply impl_SplitSheet.mono | apply impl_SplitSheet.mono | apply laws_qJob.mono | apply laws_qJob.mono | apply laws_qSheet.mono | apply laws_qSheet.mono | apply spec_BestMark.mono | apply spec_BestMark.mono | apply spec_DrawRunWithStops.mono | apply spec_DrawRunWithStops.mono | apply spec_DrawSplitSheet.mono | apply spec_DrawSplitSheet.mono | apply spec_MakeStrokes.mono | apply spec_MakeStrokes.mono | apply spec_NewPunchJob.mono | apply spec_NewPunchJob.mono | apply spec_ResumeAt.mono | apply spec_ResumeAt.mono | apply spec_RunWithStops.mono | apply spec_RunWithStops.mono | apply spec_SplitSheet.mono | apply spec_SplitSheet.mono | exact LeO.refl _ | exact LeO.none _ | refine LeO.ite ?_ ?_ | refine LeO.bind ?_ (fun _ => ?_)) | exact LeO.none _ | refine LeO.ite ?_ ?_ | refine LeO.bind ?_ (fun _ => ?_)) : p := h

/-! ### laws_FnStops: function 3 -/
mutual
def laws_FnStops.j0 : Nat → List (S64) → List Int → Int → Bool → Int → Int → Int → Int → Bool → Int → Int → List (S64) → Int → List (S64) → List (S64) → Bool → List (S64) → List (S64) → Bool → List (S64) → Int → Option (Bool)
 | 0, _, _, _, _, _, _, _, _, _, _, _, _, _, _, _, _, _, _, _, _, _ => none
 | k + 1, x5, x6, x7, x10, x12, x14, x15, x16, x19, x20, x21, x23, x24, x25, x26, x27, x28, x29, x166, x700000, x700001 => if x166 = true then (some false) else (if x19 = true then (laws_FnStops.l0 k x5 x6 x7 x10 x12 x14 x15 x16 x20 x21 x23 x24 x25 x26 x27 x28 x29 1 x700000 x700001) else (laws_FnStops.j2 k x5 x6 x7 x10 x12 x23 x24 x25 x26 x27 x28 x29 x700000 x700001))
def laws_FnStops.j2 : Nat → List (S64) → List Int → Int → Bool → Int → List (S64) → Int → List (S64) → List (S64) → Bool → List (S64) → List (S64) → List (S64) → Int → Option (Bool)
 | 0, _, _, _, _, _, _, _, _, _, _, _, _, _, _ => none
 | k + 1, x5, x6, x7, x10, x12, x23, x24, x25, x26, x27, x28, x29, x700000, x700001 => if x27 = true then ((some (([] : List (S64)) : List (S64))).bind fun y730 => (if y730.length + x28.length < 5864062014805 then ((some (y730 ++ x28 : List (S64))).bind fun y733 => (if y733.length + x29.length < 5864062014805 then ((laws_qSheet.f k (y733 ++ x29) x23).bind fun t739 => (if t739 = true then (if (x28.length : Int) = x24 then ((impl_IsSheet.f k x25).bind fun t740 => (if t740 = true then ((impl_IsSheet.f k x26).bind fun t741 => (if t741 = true then (laws_FnStops.j3 k x5 x6 x7 x10 x12 x700000 x700001) else (some false))) else (some false))) else (some false)) else (some false))) else (none))) else (none))) else (laws_FnStops.j3 k x5 x6 x7 x10 x12 x700000 x700001)
def laws_FnStops.j3 : Nat → List (S64) → List Int → Int → Bool → Int → List (S64) → Int → Option (Bool)
 | 0, _, _, _, _, _, _, _ => none
 | k + 1, x5, x6, x7, x10, x12, x700000, x700001 => if x10 = true then ((impl_NewPunchJob.f k x5).bind fun bt742 => ((spec_NewPunchJob.f k x5).bind fun bt748 => (if bt742.2.2 = true then (if bt748.2.2 = true then ((laws_qJob.f k bt742.1 bt742.2.1 bt748.1 bt748.2.1).bind fun t754 => (laws_FnStops.j4 k x6 x7 x12 (!t754) x700000 x700001 bt748.1 bt748.2.1)) else (laws_FnStops.j4 k x6 x7 x12 true x700000 x700001 bt748.1 bt748.2.1)) else (laws_FnStops.j4 k x6 x7 x12 true x700000 x700001 bt748.1 bt748.2.1)))) else (some true)
def laws_FnStops.j4 : Nat → List Int → Int → Int → Bool → List (S64) → Int → List (S64) → Int → Option (Bool)
 | 0, _, _, _, _, _, _, _, _ => none
 | k + 1, x6, x7, x12, x253, x700000, x700001, x754000, x754001 => if x253 = true then (some false) else (laws_FnStops.l1 k x7 x12 0 x6 (x6.length : Int) 0 x700000 x700001 x754000 x754001)
def laws_FnStops.l1 : Nat → Int → Int → Int → List Int → Int → Int → List (S64) → Int → List (S64) → Int → Option (Bool)
 | 0, _, _, _, _, _, _, _, _, _, _ => none
 | k + 1, x7, x12, x37, x254, x255, x256, x700000, x700001, x754000, x754001 => if x256 < x255 then (if 0 ≤ x256 then (if x256 < (x254.length : Int) then (if x256 > 0 then ((impl_ResumeAt.f k x754000 x754001 x7).bind fun bt757 => ((spec_ResumeAt.f k x754000 x754001 x7).bind fun bt764 => (if bt757.2.2.2 = true then (if bt764.2.2.2 = true then ((laws_qJob.f k bt757.1 bt757.2.1 bt764.1 bt764.2.1).bind fun t771 => (if t771 = true then (laws_FnStops.j6 k x7 x12 x37 (rd x254 x256) x254 x255 x256 x700000 x700001 bt764.1 bt764.2.1) else (some false))) else (some false)) else (some false)))) else (laws_FnStops.j6 k x7 x12 x37 (rd x254 x256) x254 x255 x256 x700000 x700001 x754000 x754001)) else (none)) else (none)) else ((laws_qJob.f k x754000 x754001 x700000 x700001).bind fun t755 => (if t755 = true then (if x37 = x12 then (some (decide (x12 ≥ x700001))) else (some false)) else (some false)))
def laws_FnStops.j6 : Nat → Int → Int → Int → Int → List Int → Int → Int → List (S64) → Int → List (S64) → Int → Option (Bool)
 | 0, _, _, _, _, _, _, _, _, _, _, _ => none
 | k + 1, x7, x12, x37, x39, x254, x255, x256, x700000, x700001, x754000, x754001 => (impl_MakeStrokes.f k x754000 x754001 x39).bind fun bt772 => ((spec_MakeStrokes.f k x754000 x754001 x39).bind fun bt779 => (if bt772.2.2.2 = true then (if bt779.2.2.2 = true then ((laws_qJob.f k bt772.1 bt772.2.1 bt779.1 bt779.2.1).bind fun t786 => (if t786 = true then (if bt772.2.2.1 = bt779.2.2.1 then (laws_FnStops.l1 k x7 x12 (wrap64 (x37 + bt779.2.2.1)) x254 x255 (wrap64 (x256 + 1)) x700000 x700001 bt779.1 bt779.2.1) else (some false)) else (some false))) else (some false)) else (some false)))
def laws_FnStops.l0 : Nat → List (S64) → List Int → Int → Bool → Int → Int → Int → Int → Int → Int → List (S64) → Int → List (S64) → List (S64) → Bool → List (S64) → List (S64) → Int → List (S64) → Int → Option (Bool)
 | 0, _, _, _, _, _, _, _, _, _, _, _, _, _, _, _, _, _, _, _, _ => none
 | k + 1, x5, x6, x7, x10, x12, x14, x15, x16, x20, x21, x23, x24, x25, x26, x27, x28, x29, x31, x700000, x700001 => if x31 ≤ 50 then (if x31 = 0 then (none) else (if (wrap64 ((wrap64 ((wrap64 (Int.tdiv x14 x31)) * x15)) + (wrap64 ((wrap64 (x31 - 1)) * x16)))) < x21 then (some false) else (if (wrap64 ((wrap64 ((wrap64 (Int.tdiv x14 x31)) * x15)) + (wrap64 ((wrap64 (x31 - 1)) * x16)))) = x21 then (if x31 < x20 then (some false) else (if x31 = x20 then (laws_FnStops.l0 k x5 x6 x7 x10 x12 x14 x15 x16 x20 x21 x23 x24 x25 x26 x27 x28 x29 (wrap64 (x31 + 1)) x700000 x700001) else (laws_FnStops.l0 k x5 x6 x7 x10 x12 x14 x15 x16 x20 x21 x23 x24 x25 x26 x27 x28 x29 (wrap64 (x31 + 1)) x700000 x700001))) else (if x31 = x20 then (some false) else (laws_FnStops.l0 k x5 x6 x7 x10 x12 x14 x15 x16 x20 x21 x23 x24 x25 x26 x27 x28 x29 (wrap64 (x31 + 1)) x700000 x700001))))) else (laws_FnStops.j2 k x5 x6 x7 x10 x12 x23 x24 x25 x26 x27 x28 x29 x700000 x700001)
end
def laws_FnStops.f (k : Nat) (l0 : List Int) (l1 : List Int) : Option (Bool) := if (wrap64 ((l0.length : Int) + (l1.length : Int))) > 1048576 then (some true) else ((spec_DrawRunWithStops.f k l0).bind fun bt679 => ((impl_RunWithStops.f k bt679.1 bt679.2.1 bt679.2.2).bind fun bt686 => ((spec_RunWithStops.f k bt679.1 bt679.2.1 bt679.2.2).bind fun bt693 => ((spec_DrawBestMark.f l1).bind fun bt700 => ((impl_BestMark.f k bt700.1 bt700.2.1 bt700.2.2).bind fun bt703 => ((spec_BestMark.f k bt700.1 bt700.2.1 bt700.2.2).bind fun bt706 => ((spec_DrawSplitSheet.f k l1).bind fun bt709 => ((impl_SplitSheet.f k bt709.1 bt709.2).bind fun bt713 => ((spec_SplitSheet.f k bt709.1 bt709.2).bind fun bt720 => (if (bt686.2.2.2 != bt693.2.2.2) = true then (laws_FnStops.j0 k bt679.1 bt679.2.1 bt679.2.2 bt686.2.2.2 bt693.2.2.1 bt700.1 bt700.2.1 bt700.2.2 bt703.2.2 bt706.1 bt706.2.1 bt709.1 bt709.2 bt713.1 bt713.2.1 bt713.2.2 bt720.1 bt720.2.1 true bt693.1 bt693.2.1) else ((laws_qJob.f k bt686.1 bt686.2.1 bt693.1 bt693.2.1).bind fun t727 => (if t727 = true then (if bt686.2.2.1 = bt693.2.2.1 then (if (bt703.2.2 != bt706.2.2) = true then (laws_FnStops.j0 k bt679.1 bt679.2.1 bt679.2.2 bt686.2.2.2 bt693.2.2.1 bt700.1 bt700.2.1 bt700.2.2 bt703.2.2 bt706.1 bt706.2.1 bt709.1 bt709.2 bt713.1 bt713.2.1 bt713.2.2 bt720.1 bt720.2.1 true bt693.1 bt693.2.1) else (if bt703.1 = bt706.1 then (if bt703.2.1 = bt706.2.1 then (if (bt713.2.2 != bt720.2.2) = true then (laws_FnStops.j0 k bt679.1 bt679.2.1 bt679.2.2 bt686.2.2.2 bt693.2.2.1 bt700.1 bt700.2.1 bt700.2.2 bt703.2.2 bt706.1 bt706.2.1 bt709.1 bt709.2 bt713.1 bt713.2.1 bt713.2.2 bt720.1 bt720.2.1 true bt693.1 bt693.2.1) else ((laws_qSheet.f k bt713.1 bt720.1).bind fun t728 => (if t728 = true then ((laws_qSheet.f k bt713.2.1 bt720.2.1).bind fun t729 => (laws_FnStops.j0 k bt679.1 bt679.2.1 bt679.2.2 bt686.2.2.2 bt693.2.2.1 bt700.1 bt700.2.1 bt700.2.2 bt703.2.2 bt706.1 bt706.2.1 bt709.1 bt709.2 bt713.1 bt713.2.1 bt713.2.2 bt720.1 bt720.2.1 (!t729) bt693.1 bt693.2.1)) else (laws_FnStops.j0 k bt679.1 bt679.2.1 bt679.2.2 bt686.2.2.2 bt693.2.2.1 bt700.1 bt700.2.1 bt700.2.2 bt703.2.2 bt706.1 bt706.2.1 bt709.1 bt709.2 bt713.1 bt713.2.1 bt713.2.2 bt720.1 bt720.2.1 true bt693.1 bt693.2.1)))) else (laws_FnStops.j0 k bt679.1 bt679.2.1 bt679.2.2 bt686.2.2.2 bt693.2.2.1 bt700.1 bt700.2.1 bt700.2.2 bt703.2.2 bt706.1 bt706.2.1 bt709.1 bt709.2 bt713.1 bt713.2.1 bt713.2.2 bt720.1 bt720.2.1 true bt693.1 bt693.2.1)) else (laws_FnStops.j0 k bt679.1 bt679.2.1 bt679.2.2 bt686.2.2.2 bt693.2.2.1 bt700.1 bt700.2.1 bt700.2.2 bt703.2.2 bt706.1 bt706.2.1 bt709.1 bt709.2 bt713.1 bt713.2.1 bt713.2.2 bt720.1 bt720.2.1 true bt693.1 bt693.2.1))) else (laws_FnStops.j0 k bt679.1 bt679.2.1 bt679.2.2 bt686.2.2.2 bt693.2.2.1 bt700.1 bt700.2.1 bt700.2.2 bt703.2.2 bt706.1 bt706.2.1 bt709.1 bt709.2 bt713.1 bt713.2.1 bt713.2.2 bt720.1 bt720.2.1 true bt693.1 bt693.2.1)) else (laws_FnStops.j0 k bt679.1 bt679.2.1 bt679.2.2 bt686.2.2.2 bt693.2.2.1 bt700.1 bt700.2.1 bt700.2.2 bt703.2.2 bt706.1 bt706.2.1 bt709.1 bt709.2 bt713.1 bt713.2.1 bt713.2.2 bt720.1 bt720.2.1 true bt693.1 bt693.2.1)))))))))))))
theorem laws_FnStops.mono_l : ∀ k, (∀ y0 y1 y2 y3 y4 y5 y6 y7 y8 y9 y10 y11 y12 y13 y14 y15 y16 y17 y18 y19 y20, LeO (laws_FnStops.j0 k y0 y1 y2 y3 y4 y5 y6 y7 y8 y9 y10 y11 y12 y13 y14 y15 y16 y17 y18 y19 y20) (laws_FnStops.j0 (k + 1) y0 y1 y2 y3 y4 y5 y6 y7 y8 y9 y10 y11 y12 y13 y14 y15 y16 y17 y18 y19 y20)) ∧ (∀ y0 y1 y2 y3 y4 y5 y6 y7 y8 y9 y10 y11 y12 y13, LeO (laws_FnStops.j2 k y0 y1 y2 y3 y4 y5 y6 y7 y8 y9 y10 y11 y12 y13) (laws_FnStops.j2 (k + 1) y0 y1 y2 y3 y4 y5 y6 y7 y8 y9 y10 y11 y12 y13)) ∧ (∀ y0 y1 y2 y3 y4 y5 y6, LeO (laws_FnStops.j3 k y0 y1 y2 y3 y4 y5 y6) (laws_FnStops.j3 (k + 1) y0 y1 y2 y3 y4 y5 y6)) ∧ (∀ y0 y1 y2 y3 y4 y5 y6 y7, LeO (laws_FnStops.j4 k y0 y1 y2 y3 y4 y5 y6 y7) (laws_FnStops.j4 (k + 1) y0 y1 y2 y3 y4 y5 y6 y7)) ∧ (∀ y0 y1 y2 y3 y4 y5 y6 y7 y8 y9, LeO (laws_FnStops.l1 k y0 y1 y2 y3 y4 y5 y6 y7 y8 y9) (laws_FnStops.l1 (k + 1) y0 y1 y2 y3 y4 y5 y6 y7 y8 y9)) ∧ (∀ y0 y1 y2 y3 y4 y5 y6 y7 y8 y9 y10, LeO (laws_FnStops.j6 k y0 y1 y2 y3 y4 y5 y6 y7 y8 y9 y10) (laws_FnStops.j6 (k + 1) y0 y1 y2 y3 y4 y5 y6 y7 y8 y9 y10)) ∧ (∀ y0 y1 y2 y3 y4 y5 y6 y7 y8 y9 y10 y11 y12 y13 y14 y15 y16 y17 y18 y19, LeO (laws_FnStops.l0 k y0 y1 y2 y3 y4 y5 y6 y7 y8 y9 y10 y11 y12 y13 y14 y15 y16 y17 y18 y19) (laws_FnStops.l0 (k + 1) y0 y1 y2 y3 y4 y5 y6 y7 y8 y9 y10 y11 y12 y13 y14 y15 y16 y17 y18 y19))
 | 0 => ⟨fun _ _ _ _ _ _ _ _ _ _ _ _ _ _ _ _ _ _ _ _ _ r h => by simp [laws_FnStops.j0] at h, fun _ _ _ _ _ _ _ _ _ _ _ _ _ _ r h => by simp [laws_FnStops.j2] at h, fun _ _ _ _ _ _ _ r h => by simp [laws_FnStops.j3] at h, fun _ _ _ _ _ _ _ _ r h => by simp [laws_FnStops.j4] at h, fun _ _ _ _ _ _ _ _ _ _ r h => by simp [laws_FnStops.l1] at h, fun _ _ _ _ _ _ _ _ _ _ _ r h => by simp [laws_FnStops.j6] at h, fun _ _ _ _ _ _ _ _ _ _ _ _ _ _ _ _ _ _ _ _ r h => by simp [laws_FnStops.l0] at h⟩
 | k + 1 => by
  obtain ⟨ih0, ih1, ih2, ih3, ih4, ih5, ih6⟩ := laws_FnStops.mono_l k
  refine ⟨?_, ?_, ?_, ?_, ?_, ?_, ?_⟩
  ·intro y0 y1 y2 y3 y4 y5 y6 y7 y8 y9 y10 y11 y12 y13 y14 y15 y16 y17 y18 y19 y20
   unfold laws_FnStops.j0
   exact mo16_
  ·intro y0 y1 y2 y3 y4 y5 y6 y7 y8 y9 y10 y11 y12 y13
   unfold laws_FnStops.j2
   exact mo16_
  ·intro y0 y1 y2 y3 y4 y5 y6
   unfold laws_FnStops.j3
   exact mo16_
  ·intro y0 y1 y2 y3 y4 y5 y6 y7
   unfold laws_FnStops.j4
   exact mo16_
  ·intro y0 y1 y2 y3 y4 y5 y6 y7 y8 y9
   unfold laws_FnStops.l1
   exact mo16_
  ·intro y0 y1 y2 y3 y4 y5 y6 y7 y8 y9 y10
   unfold laws_FnStops.j6
   exact mo16_
  intro y0 y1 y2 y3 y4 y5 y6 y7 y8 y9 y10 y11 y12 y13 y14 y15 y16 y17 y18 y19
  unfold laws_FnStops.l0
  exact mo16_
theorem laws_FnStops.mono : ∀ a0 a1 k, LeO (laws_FnStops.f k a0 a1) (laws_FnStops.f (k + 1) a0 a1) := by
 intro a0 a1 k
 obtain ⟨ih0, ih1, ih2, ih3, ih4, ih5, ih6⟩ := laws_FnStops.mono_l k
 unfold laws_FnStops.f
 exact mo16_
def laws_FnStops.Pure : Prop := ∀ (l0 : List Int) (l1 : List Int), l0.length ≤ maxLen → l0.length * 1 ≤ 140737488351232 → (∀ x ∈ l0, (Lit.int .u8 x).wf = true) → l1.length ≤ maxLen → l1.length * 1 ≤ 140737488351232 → (∀ x ∈ l1, (Lit.int .u8 x).wf = true) → ∃ k, laws_FnStops.f k l0 l1 = some true

end Go.Proofs.Ytflefblmaopaiaa.PFnStops
