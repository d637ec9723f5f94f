-- written by a program of this session: the kit's print, with outer functions of the session's own (wip/ext)
import Derived.Test.YtdipcpcbclobpaaDoorPFnPinsx0
import Derived.Test.YtdipcpcbclobpaaDoorPFnPinsx2
import Derived.Test.YtdipcpcbclobpaaDoorPFnPinsx7
import Derived.Test.YtdipcpcbclobpaaDoorPFnPinsx8
import Derived.Test.YtdipcpcbclobpaaDoorPFnPinsx9
import Derived.Test.YtdipcpcbclobpaaDoorPFnPinsx10
import Derived.Test.YtdipcpcbclobpaaDoorPFnPinsx11
import Derived.Test.YtdipcpcbclobpaaDoorPFnPinsx12
import Derived.Test.YtdipcpcbclobpaaDoorPFnPinsx13
import Derived.Test.YtdipcpcbclobpaaDoorPFnPinsx14
import Derived.Test.YtdipcpcbclobpaaDoorPFnPinsx15
namespace Go.Proofs.YtdipcpcbclobpaaDoor.PFnPins
open Go.RowKit Go.Proofs.YtdipcpcbclobpaaDoorW.PrintWords Go.Proofs.YtdipcpcbclobpaaDoorW.PrintLast Go.Proofs.YtdipcpcbclobpaaDoorW.PrintMore
attribute [local go_sem] max2_int min2_int max_two min_two max_three min_three max_four min_four   -- for this text's walks alone
set_option linter.unusedVariables false
set_option linter.unusedSimpArgs false
theorem mo16_ {p : Prop} (h : p := by repeat' first | (with_reducible first | apply ih0 | apply ih0 | apply ih1 | apply ih1 | apply ih2 | apply ih2 | apply ih3 | apply ih3 | apply ih4 | apply ih4 | apply ih5 | apply ih5 | apply ih6 | apply ih6 | apply ih7 | apply ih7 | apply impl_ArePins.mono | apply impl_ArePins.mono | apply impl_NextPlayed.mono | apply impl_NextPlayed.mono | apply impl_PinsText.mono | apply impl_PinsText.mono | apply impl_PlayedAt.mono | apply impl_PlayedAt.mono | apply impl_SwapTunes.mono | apply impl_SwapTunes.mono | apply impl_TuneOf.mono | apply impl_TuneOf.mono | apply impl_TurnTune.mono | apply impl_TurnTune.mono | apply impl_WithoutTune.mono | apply impl_WithoutTune.mono | apply laws_pIn.mono | apply laws_pIn.mono | apply laws_pSamePins.mono | apply laws_pSamePins.mono | apply laws_sameInts.mono | apply laws_sameInts.mono | apply spec_DrawNextPlayed.mono | apply spec_DrawNextPlayed.mono | apply spec_DrawPinsText.mono | apply spec_DrawPinsText.mono | apply spec_DrawPlayedAt.mono | apply spec_DrawPlayedAt.mono | apply spec_DrawSwapTunes.mono | apply spec_DrawSwapTunes.mono | apply spec_DrawTurnTune.mono | apply spec_DrawTurnTune.mono | apply spec_NextPlayed.mono | apply spec_NextPlayed.mono | apply spec_PinsText.mono | apply spec_PinsText.mono | apply spec_PlayedAt.mono | apply spec_PlayedAt.mono | apply spec_SwapTunes.mono | apply spec_SwapTunes.mono | apply spec_TuneOf.mono | apply spec_TuneOf.mono | apply spec_TurnTune.mono | apply spec_TurnTune.mono | apply spec_WithoutTune.mono | apply spec_WithoutTune.mono | exact LeO.refl _ | exact LeO.none _ | refine LeO.ite ?_ ?_ | refine LeO.bind ?_ (fun _ => ?_)) | exact LeO.none _ | refine LeO.ite ?_ ?_ | refine LeO.bind ?_ (fun _ => ?_)) : p := h

/-! ### laws_FnPins: function 3 -/
mutual
def laws_FnPins.j0 : Nat → List Int → List (S33) → Int → Int → List (S33) → Bool → Bool → Option (Bool)
 | 0, _, _, _, _, _, _, _ => none
 | k + 1, x1, x5, x6, x7, x8, x9, x89 => if x89 = true then (some false) else (if x9 = true then ((impl_TurnTune.f k x8 x6 (Int.tmod (wrap64 (360 - x7)) 360)).bind fun su => ((impl_TuneOf.f k x5 x6).bind fun sv => ((spec_TuneOf.f k x5 x6).bind fun cT => ((impl_WithoutTune.f k x5 x6).bind fun sw => ((spec_WithoutTune.f k x5 x6).bind fun nA => ((impl_WithoutTune.f k x8 x6).bind fun sx => (if su.2 = true then ((laws_pSamePins.f k su.1 x5).bind fun ux => (if ux = true then (if sv.2 = true then (if cT.2 = true then ((laws_pSamePins.f k sv.1 cT.1).bind fun uy => (if uy = true then (if sw.2 = true then (if nA.2 = true then ((laws_pSamePins.f k sw.1 nA.1).bind fun uz => (if uz = true then (if (wrap64 ((cT.1.length : Int) + (nA.1.length : Int))) = (x5.length : Int) then (if sx.2 = true then ((laws_pSamePins.f k sx.1 nA.1).bind fun uA => (if uA = true then ((impl_ArePins.f k x8).bind fun q8 => (laws_FnPins.j1 k x1 x6 x7 x8 cT.1 (!q8))) else (laws_FnPins.j1 k x1 x6 x7 x8 cT.1 true))) else (laws_FnPins.j1 k x1 x6 x7 x8 cT.1 true)) else (laws_FnPins.j1 k x1 x6 x7 x8 cT.1 true)) else (laws_FnPins.j1 k x1 x6 x7 x8 cT.1 true))) else (laws_FnPins.j1 k x1 x6 x7 x8 cT.1 true)) else (laws_FnPins.j1 k x1 x6 x7 x8 cT.1 true)) else (laws_FnPins.j1 k x1 x6 x7 x8 cT.1 true))) else (laws_FnPins.j1 k x1 x6 x7 x8 cT.1 true)) else (laws_FnPins.j1 k x1 x6 x7 x8 cT.1 true)) else (laws_FnPins.j1 k x1 x6 x7 x8 cT.1 true))) else (laws_FnPins.j1 k x1 x6 x7 x8 cT.1 true)))))))) else (laws_FnPins.j3 k x1))
def laws_FnPins.j3 : Nat → List Int → Option (Bool)
 | 0, _ => none
 | k + 1, x1 => (spec_DrawSwapTunes.f k x1).bind fun ef => ((impl_SwapTunes.f k ef.1 ef.2.1 ef.2.2).bind fun iN => ((spec_SwapTunes.f k ef.1 ef.2.1 ef.2.2).bind fun sy => (if (iN.2 != sy.2) = true then (laws_FnPins.j4 k x1 ef.1 ef.2.1 ef.2.2 iN.1 iN.2 true) else ((laws_pSamePins.f k iN.1 sy.1).bind fun ra => (laws_FnPins.j4 k x1 ef.1 ef.2.1 ef.2.2 iN.1 iN.2 (!ra))))))
def laws_FnPins.j4 : Nat → List Int → List (S33) → Int → Int → List (S33) → Bool → Bool → Option (Bool)
 | 0, _, _, _, _, _, _, _ => none
 | k + 1, x1, x28, x29, x30, x31, x32, x246 => if x246 = true then (some false) else (if x32 = true then ((impl_SwapTunes.f k x31 x30 x29).bind fun sA => (if sA.2 = true then ((laws_pSamePins.f k sA.1 x28).bind fun uB => (if uB = true then ((impl_ArePins.f k x31).bind fun uC => (if uC = true then (laws_FnPins.j5 k x1) else (some false))) else (some false))) else (some false))) else (laws_FnPins.j5 k x1))
def laws_FnPins.j5 : Nat → List Int → Option (Bool)
 | 0, _ => none
 | k + 1, x1 => (spec_DrawNextPlayed.f k x1).bind fun eg => ((impl_NextPlayed.f k eg.1 eg.2.1 eg.2.2).bind fun nB => ((spec_NextPlayed.f k eg.1 eg.2.1 eg.2.2).bind fun nC => (if (nB.2 != nC.2) = true then (laws_FnPins.j6 k x1 eg.1 eg.2.1 eg.2.2 nB.2 nC.1 true) else (laws_FnPins.j6 k x1 eg.1 eg.2.1 eg.2.2 nB.2 nC.1 (nB.1 != nC.1)))))
def laws_FnPins.j6 : Nat → List Int → List (S33) → Int → Int → Bool → Int → Bool → Option (Bool)
 | 0, _, _, _, _, _, _, _ => none
 | k + 1, x1, x37, x38, x39, x41, x42, x295 => if x295 = true then (some false) else (if x41 = true then ((impl_PlayedAt.f k x37 x38 (Int.tmod (wrap64 (x39 + x42)) 360)).bind fun sB => (if sB.2 = true then (if (sB.1.length : Int) = 0 then (some false) else (if x42 < 0 then (some false) else (if x42 ≥ 360 then (some false) else (laws_FnPins.j7 k x1)))) else (some false))) else (laws_FnPins.j7 k x1))
def laws_FnPins.j7 : Nat → List Int → Option (Bool)
 | 0, _ => none
 | k + 1, x1 => (spec_DrawPlayedAt.f k x1).bind fun iO => ((impl_PlayedAt.f k iO.1 iO.2.1 iO.2.2).bind fun sC => ((spec_PlayedAt.f k iO.1 iO.2.1 iO.2.2).bind fun sD => ((spec_DrawPinsText.f k x1).bind fun cU => ((impl_PinsText.f k cU).bind fun sE => ((spec_PinsText.f k cU).bind fun sF => (if (sC.2 == sD.2) = true then ((laws_sameInts.f k sC.1 sD.1).bind fun uD => (if uD = true then (if (sE.2 == sF.2) = true then (some (sE.1.toList == sF.1.toList)) else (some false)) else (some false))) else (some false)))))))
def laws_FnPins.j1 : Nat → List Int → Int → Int → List (S33) → List (S33) → Bool → Option (Bool)
 | 0, _, _, _, _, _, _ => none
 | k + 1, x1, x6, x7, x8, x16, x190 => if x190 = true then (some false) else (laws_FnPins.l0 k x1 x6 x7 x8 x16 (x16.length : Int) 0)
def laws_FnPins.l0 : Nat → List Int → Int → Int → List (S33) → List (S33) → Int → Int → Option (Bool)
 | 0, _, _, _, _, _, _, _ => none
 | k + 1, x1, x6, x7, x8, rb, wD, n9 => if n9 < wD then (if 0 ≤ n9 then (if n9 < (rb.length : Int) then ((impl_PlayedAt.f k x8 x6 (Int.tmod (wrap64 (((rd_T33 rb n9).f1) + x7)) 360)).bind fun sG => (if sG.2 = true then ((laws_pIn.f k sG.1 ((rd_T33 rb n9).f0)).bind fun uE => (if uE = true then (laws_FnPins.l0 k x1 x6 x7 x8 rb wD (wrap64 (n9 + 1))) else (some false))) else (some false))) else (none)) else (none)) else (laws_FnPins.j3 k x1)
end
def laws_FnPins.f (k : Nat) (l0 : List Int) (l1 : List Int) : Option (Bool) := (laws_big.f l0 l1).bind fun pF => (if pF = true then (some true) else ((spec_DrawTurnTune.f k l0).bind fun bQ => ((impl_TurnTune.f k bQ.1 bQ.2.1 bQ.2.2).bind fun dK => ((spec_TurnTune.f k bQ.1 bQ.2.1 bQ.2.2).bind fun la => (if (dK.2 != la.2) = true then (laws_FnPins.j0 k l1 bQ.1 bQ.2.1 bQ.2.2 dK.1 dK.2 true) else ((laws_pSamePins.f k dK.1 la.1).bind fun oa => (laws_FnPins.j0 k l1 bQ.1 bQ.2.1 bQ.2.2 dK.1 dK.2 (!oa))))))))
theorem laws_FnPins.mono_l : ∀ k, (∀ y0 y1 y2 y3 y4 y5 y6, LeO (laws_FnPins.j0 k y0 y1 y2 y3 y4 y5 y6) (laws_FnPins.j0 (k + 1) y0 y1 y2 y3 y4 y5 y6)) ∧ (∀ y0, LeO (laws_FnPins.j3 k y0) (laws_FnPins.j3 (k + 1) y0)) ∧ (∀ y0 y1 y2 y3 y4 y5 y6, LeO (laws_FnPins.j4 k y0 y1 y2 y3 y4 y5 y6) (laws_FnPins.j4 (k + 1) y0 y1 y2 y3 y4 y5 y6)) ∧ (∀ y0, LeO (laws_FnPins.j5 k y0) (laws_FnPins.j5 (k + 1) y0)) ∧ (∀ y0 y1 y2 y3 y4 y5 y6, LeO (laws_FnPins.j6 k y0 y1 y2 y3 y4 y5 y6) (laws_FnPins.j6 (k + 1) y0 y1 y2 y3 y4 y5 y6)) ∧ (∀ y0, LeO (laws_FnPins.j7 k y0) (laws_FnPins.j7 (k + 1) y0)) ∧ (∀ y0 y1 y2 y3 y4 y5, LeO (laws_FnPins.j1 k y0 y1 y2 y3 y4 y5) (laws_FnPins.j1 (k + 1) y0 y1 y2 y3 y4 y5)) ∧ (∀ y0 y1 y2 y3 y4 y5 y6, LeO (laws_FnPins.l0 k y0 y1 y2 y3 y4 y5 y6) (laws_FnPins.l0 (k + 1) y0 y1 y2 y3 y4 y5 y6))
 | 0 => ⟨fun _ _ _ _ _ _ _ r h => by simp [laws_FnPins.j0] at h, fun _ r h => by simp [laws_FnPins.j3] at h, fun _ _ _ _ _ _ _ r h => by simp [laws_FnPins.j4] at h, fun _ r h => by simp [laws_FnPins.j5] at h, fun _ _ _ _ _ _ _ r h => by simp [laws_FnPins.j6] at h, fun _ r h => by simp [laws_FnPins.j7] at h, fun _ _ _ _ _ _ r h => by simp [laws_FnPins.j1] at h, fun _ _ _ _ _ _ _ r h => by simp [laws_FnPins.l0] at h⟩
 | k + 1 => by
  obtain ⟨ih0, ih1, ih2, ih3, ih4, ih5, ih6, ih7⟩ := laws_FnPins.mono_l k
  refine ⟨?_, ?_, ?_, ?_, ?_, ?_, ?_, ?_⟩
  ·intro y0 y1 y2 y3 y4 y5 y6
   unfold laws_FnPins.j0
   exact mo16_
  ·intro y0
   unfold laws_FnPins.j3
   exact mo16_
  ·intro y0 y1 y2 y3 y4 y5 y6
   unfold laws_FnPins.j4
   exact mo16_
  ·intro y0
   unfold laws_FnPins.j5
   exact mo16_
  ·intro y0 y1 y2 y3 y4 y5 y6
   unfold laws_FnPins.j6
   exact mo16_
  ·intro y0
   unfold laws_FnPins.j7
   exact mo16_
  ·intro y0 y1 y2 y3 y4 y5
   unfold laws_FnPins.j1
   exact mo16_
  intro y0 y1 y2 y3 y4 y5 y6
  unfold laws_FnPins.l0
  exact mo16_
theorem laws_FnPins.mono : ∀ a0 a1 k, LeO (laws_FnPins.f k a0 a1) (laws_FnPins.f (k + 1) a0 a1) := by
 intro a0 a1 k
 obtain ⟨ih0, ih1, ih2, ih3, ih4, ih5, ih6, ih7⟩ := laws_FnPins.mono_l k
 unfold laws_FnPins.f
 exact mo16_
def laws_FnPins.Pure : Prop := ∀ (l0 : List Int) (l1 : List Int), l0.length ≤ maxLen → l0.length * 1 ≤ 140737488351232 → (∀ x ∈ l0, (Lit.int .u8 x).wf = true) → l1.length ≤ maxLen → l1.length * 1 ≤ 140737488351232 → (∀ x ∈ l1, (Lit.int .u8 x).wf = true) → ∃ k, laws_FnPins.f k l0 l1 = some true

end Go.Proofs.YtdipcpcbclobpaaDoor.PFnPins
