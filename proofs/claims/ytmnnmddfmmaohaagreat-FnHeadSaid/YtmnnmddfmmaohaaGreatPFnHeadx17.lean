-- written by a program of this session: the kit's print, with outer functions of the session's own (wip/ext)
import Derived.Test.YtmnnmddfmmaohaaGreatPFnHeadx0
import Derived.Test.YtmnnmddfmmaohaaGreatPFnHeadx2
import Derived.Test.YtmnnmddfmmaohaaGreatPFnHeadx8
import Derived.Test.YtmnnmddfmmaohaaGreatPFnHeadx10
import Derived.Test.YtmnnmddfmmaohaaGreatPFnHeadx11
import Derived.Test.YtmnnmddfmmaohaaGreatPFnHeadx12
import Derived.Test.YtmnnmddfmmaohaaGreatPFnHeadx13
import Derived.Test.YtmnnmddfmmaohaaGreatPFnHeadx14
import Derived.Test.YtmnnmddfmmaohaaGreatPFnHeadx15
import Derived.Test.YtmnnmddfmmaohaaGreatPFnHeadx16
namespace Go.Proofs.YtmnnmddfmmaohaaGreat.PFnHead
open Go.RowKit Go.Proofs.YtmnnmddfmmaohaaGreatW.PrintWords Go.Proofs.YtmnnmddfmmaohaaGreatW.PrintLast Go.Proofs.YtmnnmddfmmaohaaGreatW.PrintMore
attribute [local go_sem] max2_int min2_int max_two min_two max_three min_three max_four min_four   -- for this text's walks alone
set_option linter.unusedVariables false
set_option linter.unusedSimpArgs false
theorem mo17_ {p : Prop} (h : p := by repeat' first | (with_reducible first | apply ih0 | apply ih0 | apply ih1 | apply ih1 | apply ih2 | apply ih2 | apply ih3 | apply ih3 | apply ih4 | apply ih4 | apply ih5 | apply ih5 | apply ih6 | apply ih6 | apply ih7 | apply ih7 | apply impl_RowOrder.mono | apply impl_RowOrder.mono | apply impl_SwapGain.mono | apply impl_SwapGain.mono | apply impl_ToolChanges.mono | apply impl_ToolChanges.mono | apply impl_WayOfHead.mono | apply impl_WayOfHead.mono | apply impl_WearOf.mono | apply impl_WearOf.mono | apply laws_pSameStrokes.mono | apply laws_pSameStrokes.mono | apply laws_sameInts.mono | apply laws_sameInts.mono | apply spec_DrawRowOrder.mono | apply spec_DrawRowOrder.mono | apply spec_DrawSwapGain.mono | apply spec_DrawSwapGain.mono | apply spec_DrawToolChanges.mono | apply spec_DrawToolChanges.mono | apply spec_DrawWayOfHead.mono | apply spec_DrawWayOfHead.mono | apply spec_RowOrder.mono | apply spec_RowOrder.mono | apply spec_SwapGain.mono | apply spec_SwapGain.mono | apply spec_ToolChanges.mono | apply spec_ToolChanges.mono | apply spec_WayOfHead.mono | apply spec_WayOfHead.mono | apply spec_WearOf.mono | apply spec_WearOf.mono | exact LeO.refl _ | exact LeO.none _ | refine LeO.ite ?_ ?_ | refine LeO.bind ?_ (fun _ => ?_)) | exact LeO.none _ | refine LeO.ite ?_ ?_ | refine LeO.bind ?_ (fun _ => ?_)) : p := h

/-! ### laws_FnHead: function 3 -/
mutual
def laws_FnHead.j0 : Nat → List Int → List (S30) → Int → Int → Int → Bool → Int → Bool → Option (Bool)
 | 0, _, _, _, _, _, _, _, _ => none
 | k + 1, x1, x5, x6, x7, x8, x10, x11, x78 => if x78 = true then (some false) else (if x10 = true then ((some (([] : List (S30)) : List (S30))).bind fun dD => (if dD.length + x5.length < 8796093022208 then ((some (dD ++ x5 : List (S30))).bind fun ak => (if 0 ≤ x7 then (if x7 < (x5.length : Int) then (if 0 ≤ x6 then (if x6 < (ak.length : Int) then (if x6 < (x5.length : Int) then (if x7 < (ak.length : Int) then ((some ((ak.set (x6 : Int).toNat (⟨(rd_T30 x5 x7).f0, (rd_T30 x5 x7).f1⟩ : S30)).set (x7 : Int).toNat (⟨(rd_T30 x5 x6).f0, (rd_T30 x5 x6).f1⟩ : S30) : List (S30))).bind fun aK => ((impl_WayOfHead.f k x5 x8).bind fun eJ => ((impl_WayOfHead.f k aK x8).bind fun eK => ((impl_SwapGain.f k aK x6 x7 x8).bind fun eL => (if eJ.2 = true then (if eK.2 = true then (if (wrap64 (eJ.1 - eK.1)) = x11 then (if eL.2 = true then (if eL.1 = (wrap64 (-x11)) then (laws_FnHead.j1 k x1) else (some false)) else (some false)) else (some false)) else (some false)) else (some false)))))) else (none)) else (none)) else (none)) else (none)) else (none)) else (none))) else (none))) else (laws_FnHead.j1 k x1))
def laws_FnHead.j1 : Nat → List Int → Option (Bool)
 | 0, _ => none
 | k + 1, x1 => (spec_DrawToolChanges.f k x1).bind fun dk => ((impl_ToolChanges.f k dk.1 dk.2).bind fun iO => ((spec_ToolChanges.f k dk.1 dk.2).bind fun jK => ((impl_WearOf.f k dk.1 dk.2).bind fun tJ => ((spec_WearOf.f k dk.1 dk.2).bind fun jL => (if (iO.2 != jK.2) = true then (laws_FnHead.j2 k x1 dk.1 dk.2 iO.2 jK.1 jL.1 true) else (if iO.1 = jK.1 then (if (tJ.2 != jL.2) = true then (laws_FnHead.j2 k x1 dk.1 dk.2 iO.2 jK.1 jL.1 true) else ((laws_sameInts.f k tJ.1 jL.1).bind fun zj => (if zj = true then (laws_FnHead.j2 k x1 dk.1 dk.2 iO.2 jK.1 jL.1 (tJ.2 != iO.2)) else (laws_FnHead.j2 k x1 dk.1 dk.2 iO.2 jK.1 jL.1 true)))) else (laws_FnHead.j2 k x1 dk.1 dk.2 iO.2 jK.1 jL.1 true)))))))
def laws_FnHead.j2 : Nat → List Int → List (S30) → Int → Bool → Int → List Int → Bool → Option (Bool)
 | 0, _, _, _, _, _, _, _ => none
 | k + 1, x1, x20, x21, x23, x24, x28, x192 => if x192 = true then (some false) else (if x23 = true then (laws_FnHead.l0 k x1 x20 x21 x24 x28 0 x28 (x28.length : Int) 0) else (laws_FnHead.j4 k x1))
def laws_FnHead.j4 : Nat → List Int → Option (Bool)
 | 0, _ => none
 | k + 1, x1 => (spec_DrawWayOfHead.f k x1).bind fun q8 => ((impl_WayOfHead.f k q8.1 q8.2).bind fun xk => ((spec_WayOfHead.f k q8.1 q8.2).bind fun xl => ((spec_DrawRowOrder.f k x1).bind fun i2 => ((impl_RowOrder.f k i2).bind fun lW => ((spec_RowOrder.f k i2).bind fun lX => (if (xk.2 != xl.2) = true then (laws_FnHead.j5 k lW.2 lX.1 true) else (if xk.1 = xl.1 then (if (lW.2 != lX.2) = true then (laws_FnHead.j5 k lW.2 lX.1 true) else ((laws_pSameStrokes.f k lW.1 lX.1).bind fun rV => (laws_FnHead.j5 k lW.2 lX.1 (!rV)))) else (laws_FnHead.j5 k lW.2 lX.1 true))))))))
def laws_FnHead.j5 : Nat → Bool → List (S30) → Bool → Option (Bool)
 | 0, _, _, _ => none
 | k + 1, x41, x42, x281 => if x281 = true then (some false) else (laws_FnHead.l1 k x41 x42 1)
def laws_FnHead.l1 : Nat → Bool → List (S30) → Int → Option (Bool)
 | 0, _, _, _ => none
 | k + 1, x41, x42, x44 => if x41 = true then (laws_FnHead.j7 k x41 x42 x44 (decide (x44 < (x42.length : Int)))) else (laws_FnHead.j7 k x41 x42 x44 false)
def laws_FnHead.j7 : Nat → Bool → List (S30) → Int → Bool → Option (Bool)
 | 0, _, _, _, _ => none
 | k + 1, x41, x42, x44, x288 => if x288 = true then (if 0 ≤ (wrap64 (x44 - 1)) then (if (wrap64 (x44 - 1)) < (x42.length : Int) then (if 0 ≤ x44 then (if x44 < (x42.length : Int) then (if ((rd_T30 x42 (wrap64 (x44 - 1))).f1) > ((rd_T30 x42 x44).f1) then (some false) else (laws_FnHead.l1 k x41 x42 (wrap64 (x44 + 1)))) else (none)) else (none)) else (none)) else (none)) else (some true)
def laws_FnHead.l0 : Nat → List Int → List (S30) → Int → Int → List Int → Int → List Int → Int → Int → Option (Bool)
 | 0, _, _, _, _, _, _, _, _, _ => none
 | k + 1, x1, x20, x21, x24, x28, x30, vP, zk, rW => if rW < zk then (if 0 ≤ rW then (if rW < (vP.length : Int) then (if (rd vP rW) > 0 then (laws_FnHead.l0 k x1 x20 x21 x24 x28 (wrap64 (x30 + 1)) vP zk (wrap64 (rW + 1))) else (laws_FnHead.l0 k x1 x20 x21 x24 x28 x30 vP zk (wrap64 (rW + 1)))) else (none)) else (none)) else (if x24 < 0 then (some false) else (if x24 > 0 then (if x24 > (wrap64 ((x20.length : Int) - 1)) then (some false) else (if x30 > 0 then (if x24 < (wrap64 (x30 - 1)) then (some false) else (if (x28.length : Int) = x21 then (laws_FnHead.j4 k x1) else (some false))) else (if (x28.length : Int) = x21 then (laws_FnHead.j4 k x1) else (some false)))) else (if x30 > 0 then (if x24 < (wrap64 (x30 - 1)) then (some false) else (if (x28.length : Int) = x21 then (laws_FnHead.j4 k x1) else (some false))) else (if (x28.length : Int) = x21 then (laws_FnHead.j4 k x1) else (some false)))))
end
def laws_FnHead.f (k : Nat) (l0 : List Int) (l1 : List Int) : Option (Bool) := (laws_big.f l0 l1).bind fun tK => (if tK = true then (some true) else ((spec_DrawSwapGain.f k l0).bind fun bJ => ((impl_SwapGain.f k bJ.1 bJ.2.1 bJ.2.2.1 bJ.2.2.2).bind fun hD => ((spec_SwapGain.f k bJ.1 bJ.2.1 bJ.2.2.1 bJ.2.2.2).bind fun hF => (if (hD.2 != hF.2) = true then (laws_FnHead.j0 k l1 bJ.1 bJ.2.1 bJ.2.2.1 bJ.2.2.2 hD.2 hF.1 true) else (laws_FnHead.j0 k l1 bJ.1 bJ.2.1 bJ.2.2.1 bJ.2.2.2 hD.2 hF.1 (hD.1 != hF.1)))))))
theorem laws_FnHead.mono_l : ∀ k, (∀ y0 y1 y2 y3 y4 y5 y6 y7, LeO (laws_FnHead.j0 k y0 y1 y2 y3 y4 y5 y6 y7) (laws_FnHead.j0 (k + 1) y0 y1 y2 y3 y4 y5 y6 y7)) ∧ (∀ y0, LeO (laws_FnHead.j1 k y0) (laws_FnHead.j1 (k + 1) y0)) ∧ (∀ y0 y1 y2 y3 y4 y5 y6, LeO (laws_FnHead.j2 k y0 y1 y2 y3 y4 y5 y6) (laws_FnHead.j2 (k + 1) y0 y1 y2 y3 y4 y5 y6)) ∧ (∀ y0, LeO (laws_FnHead.j4 k y0) (laws_FnHead.j4 (k + 1) y0)) ∧ (∀ y0 y1 y2, LeO (laws_FnHead.j5 k y0 y1 y2) (laws_FnHead.j5 (k + 1) y0 y1 y2)) ∧ (∀ y0 y1 y2, LeO (laws_FnHead.l1 k y0 y1 y2) (laws_FnHead.l1 (k + 1) y0 y1 y2)) ∧ (∀ y0 y1 y2 y3, LeO (laws_FnHead.j7 k y0 y1 y2 y3) (laws_FnHead.j7 (k + 1) y0 y1 y2 y3)) ∧ (∀ y0 y1 y2 y3 y4 y5 y6 y7 y8, LeO (laws_FnHead.l0 k y0 y1 y2 y3 y4 y5 y6 y7 y8) (laws_FnHead.l0 (k + 1) y0 y1 y2 y3 y4 y5 y6 y7 y8))
 | 0 => ⟨fun _ _ _ _ _ _ _ _ r h => by simp [laws_FnHead.j0] at h, fun _ r h => by simp [laws_FnHead.j1] at h, fun _ _ _ _ _ _ _ r h => by simp [laws_FnHead.j2] at h, fun _ r h => by simp [laws_FnHead.j4] at h, fun _ _ _ r h => by simp [laws_FnHead.j5] at h, fun _ _ _ r h => by simp [laws_FnHead.l1] at h, fun _ _ _ _ r h => by simp [laws_FnHead.j7] at h, fun _ _ _ _ _ _ _ _ _ r h => by simp [laws_FnHead.l0] at h⟩
 | k + 1 => by
  obtain ⟨ih0, ih1, ih2, ih3, ih4, ih5, ih6, ih7⟩ := laws_FnHead.mono_l k
  refine ⟨?_, ?_, ?_, ?_, ?_, ?_, ?_, ?_⟩
  ·intro y0 y1 y2 y3 y4 y5 y6 y7
   unfold laws_FnHead.j0
   exact mo17_
  ·intro y0
   unfold laws_FnHead.j1
   exact mo17_
  ·intro y0 y1 y2 y3 y4 y5 y6
   unfold laws_FnHead.j2
   exact mo17_
  ·intro y0
   unfold laws_FnHead.j4
   exact mo17_
  ·intro y0 y1 y2
   unfold laws_FnHead.j5
   exact mo17_
  ·intro y0 y1 y2
   unfold laws_FnHead.l1
   exact mo17_
  ·intro y0 y1 y2 y3
   unfold laws_FnHead.j7
   exact mo17_
  intro y0 y1 y2 y3 y4 y5 y6 y7 y8
  unfold laws_FnHead.l0
  exact mo17_
theorem laws_FnHead.mono : ∀ a0 a1 k, LeO (laws_FnHead.f k a0 a1) (laws_FnHead.f (k + 1) a0 a1) := by
 intro a0 a1 k
 obtain ⟨ih0, ih1, ih2, ih3, ih4, ih5, ih6, ih7⟩ := laws_FnHead.mono_l k
 unfold laws_FnHead.f
 exact mo17_
def laws_FnHead.Pure : Prop := ∀ (l0 : List Int) (l1 : List Int), l0.length ≤ maxLen → l0.length * 1 ≤ 140737488351232 → (∀ x ∈ l0, (Lit.int .u8 x).wf = true) → l1.length ≤ maxLen → l1.length * 1 ≤ 140737488351232 → (∀ x ∈ l1, (Lit.int .u8 x).wf = true) → ∃ k, laws_FnHead.f k l0 l1 = some true

end Go.Proofs.YtmnnmddfmmaohaaGreat.PFnHead
