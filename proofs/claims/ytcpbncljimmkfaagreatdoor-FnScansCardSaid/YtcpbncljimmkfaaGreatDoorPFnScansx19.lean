-- written by a program of this session: the kit's print, with outer functions of the session's own (wip/ext)
import Derived.Test.YtcpbncljimmkfaaGreatDoorPFnScansx0
import Derived.Test.YtcpbncljimmkfaaGreatDoorPFnScansx2
import Derived.Test.YtcpbncljimmkfaaGreatDoorPFnScansx6
import Derived.Test.YtcpbncljimmkfaaGreatDoorPFnScansx8
import Derived.Test.YtcpbncljimmkfaaGreatDoorPFnScansx9
import Derived.Test.YtcpbncljimmkfaaGreatDoorPFnScansx10
import Derived.Test.YtcpbncljimmkfaaGreatDoorPFnScansx11
import Derived.Test.YtcpbncljimmkfaaGreatDoorPFnScansx13
import Derived.Test.YtcpbncljimmkfaaGreatDoorPFnScansx15
import Derived.Test.YtcpbncljimmkfaaGreatDoorPFnScansx16
import Derived.Test.YtcpbncljimmkfaaGreatDoorPFnScansx17
import Derived.Test.YtcpbncljimmkfaaGreatDoorPFnScansx18
namespace Go.Proofs.YtcpbncljimmkfaaGreatDoor.PFnScans
open Go.RowKit Go.Proofs.YtcpbncljimmkfaaGreatDoorW.PrintWords Go.Proofs.YtcpbncljimmkfaaGreatDoorW.PrintLast Go.Proofs.YtcpbncljimmkfaaGreatDoorW.PrintMore
attribute [local go_sem] max2_int min2_int max_two min_two max_three min_three max_four min_four   -- for this text's walks alone
set_option linter.unusedVariables false
set_option linter.unusedSimpArgs false
theorem mo19_ {p : Prop} (h : p := by repeat' first | (with_reducible first | apply ih0 | apply ih0 | apply ih1 | apply ih1 | apply ih2 | apply ih2 | apply ih3 | apply ih3 | apply ih4 | apply ih4 | apply ih5 | apply ih5 | apply ih6 | apply ih6 | apply ih7 | apply ih7 | apply ih8 | apply ih8 | apply impl_AgreeScans.mono | apply impl_AgreeScans.mono | apply impl_CountStains.mono | apply impl_CountStains.mono | apply impl_HolesIn.mono | apply impl_HolesIn.mono | apply impl_IsScan.mono | apply impl_IsScan.mono | apply impl_LeastHoles.mono | apply impl_LeastHoles.mono | apply impl_MostHoles.mono | apply impl_MostHoles.mono | apply impl_OpenTracks.mono | apply impl_OpenTracks.mono | apply impl_ScanOf.mono | apply impl_ScanOf.mono | apply laws_pIn.mono | apply laws_pIn.mono | apply laws_pSameHoles.mono | apply laws_pSameHoles.mono | apply laws_pSameTexts.mono | apply laws_pSameTexts.mono | apply laws_sameInts.mono | apply laws_sameInts.mono | apply spec_CountStains.mono | apply spec_CountStains.mono | apply spec_DrawHolesIn.mono | apply spec_DrawHolesIn.mono | apply spec_DrawLeastHoles.mono | apply spec_DrawLeastHoles.mono | apply spec_DrawScanOf.mono | apply spec_DrawScanOf.mono | apply spec_HolesIn.mono | apply spec_HolesIn.mono | apply spec_LeastHoles.mono | apply spec_LeastHoles.mono | apply spec_MostHoles.mono | apply spec_MostHoles.mono | apply spec_OpenTracks.mono | apply spec_OpenTracks.mono | apply spec_ScanOf.mono | apply spec_ScanOf.mono | exact LeO.refl _ | exact LeO.none _ | refine LeO.ite ?_ ?_ | refine LeO.bind ?_ (fun _ => ?_)) | exact LeO.none _ | refine LeO.ite ?_ ?_ | refine LeO.bind ?_ (fun _ => ?_)) : p := h

/-! ### laws_FnScans: function 3 -/
mutual
def laws_FnScans.j0 : Nat → List Int → List (S55) → Int → Int → List ByteArray → Bool → List ByteArray → Bool → Option (Bool)
 | 0, _, _, _, _, _, _, _, _ => none
 | k + 1, x1, x5, x6, x7, x8, x9, x10, x78 => if x78 = true then (some false) else (if x9 = true then ((impl_CountStains.f k x8).bind fun wd => (if wd.2 = true then (if wd.1 = 0 then (if (x10.length : Int) = x7 then ((impl_IsScan.f k x8).bind fun qQ => (laws_FnScans.j1 k x1 x5 x6 x10 (!qQ))) else (laws_FnScans.j1 k x1 x5 x6 x10 true)) else (laws_FnScans.j1 k x1 x5 x6 x10 true)) else (laws_FnScans.j1 k x1 x5 x6 x10 true))) else (laws_FnScans.j5 k x1))
def laws_FnScans.j5 : Nat → List Int → Option (Bool)
 | 0, _ => none
 | k + 1, x1 => (spec_DrawHolesIn.f k x1).bind fun bD => ((impl_HolesIn.f k bD).bind fun lg => ((spec_HolesIn.f k bD).bind fun we => (if (lg.2 != we.2) = true then (laws_FnScans.j6 k x1 bD lg.1 lg.2 true) else ((laws_pSameHoles.f k lg.1 we.1).bind fun qR => (laws_FnScans.j6 k x1 bD lg.1 lg.2 (!qR))))))
def laws_FnScans.j6 : Nat → List Int → List ByteArray → List (S55) → Bool → Bool → Option (Bool)
 | 0, _, _, _, _, _ => none
 | k + 1, x1, x21, x22, x23, x173 => if x173 = true then (some false) else (if x23 = true then (if 0 < (x21.length : Int) then ((impl_ScanOf.f k x22 ((rdOf ByteArray.empty x21 0).size : Int) (x21.length : Int)).bind fun wg => (if wg.2 = true then ((laws_pSameTexts.f k wg.1 x21).bind fun yO => (if yO = true then (laws_FnScans.j7 k x1) else (some false))) else (some false))) else (none)) else (laws_FnScans.j7 k x1))
def laws_FnScans.j7 : Nat → List Int → Option (Bool)
 | 0, _ => none
 | k + 1, x1 => (spec_DrawLeastHoles.f k x1).bind fun aJ => ((impl_LeastHoles.f k aJ).bind fun cm => ((spec_LeastHoles.f k aJ).bind fun wh => ((impl_MostHoles.f k aJ).bind fun eP => ((spec_MostHoles.f k aJ).bind fun wi => ((impl_CountStains.f k aJ).bind fun sL => ((spec_CountStains.f k aJ).bind fun ff => (if (cm.2 != wh.2) = true then (laws_FnScans.j8 k aJ cm.1 cm.2 eP.1 ff.1 true) else ((laws_pSameTexts.f k cm.1 wh.1).bind fun yP => (if yP = true then (if (eP.2 != wi.2) = true then (laws_FnScans.j8 k aJ cm.1 cm.2 eP.1 ff.1 true) else ((laws_pSameTexts.f k eP.1 wi.1).bind fun yQ => (if yQ = true then (if (sL.2 != ff.2) = true then (laws_FnScans.j8 k aJ cm.1 cm.2 eP.1 ff.1 true) else (if sL.1 = ff.1 then (if (eP.2 != cm.2) = true then (laws_FnScans.j8 k aJ cm.1 cm.2 eP.1 ff.1 true) else (if (sL.2 != cm.2) = true then (laws_FnScans.j8 k aJ cm.1 cm.2 eP.1 ff.1 true) else ((impl_IsScan.f k aJ).bind fun qS => (laws_FnScans.j8 k aJ cm.1 cm.2 eP.1 ff.1 (qS != cm.2))))) else (laws_FnScans.j8 k aJ cm.1 cm.2 eP.1 ff.1 true))) else (laws_FnScans.j8 k aJ cm.1 cm.2 eP.1 ff.1 true)))) else (laws_FnScans.j8 k aJ cm.1 cm.2 eP.1 ff.1 true))))))))))
def laws_FnScans.j8 : Nat → List ByteArray → List ByteArray → Bool → List ByteArray → Int → Bool → Option (Bool)
 | 0, _, _, _, _, _, _ => none
 | k + 1, x28, x29, x30, x33, x39, x271 => if x271 = true then (some false) else (if x30 = true then ((impl_AgreeScans.f k x29 x28).bind fun wj => ((impl_AgreeScans.f k x28 x33).bind fun wk => ((impl_AgreeScans.f k x29 x33).bind fun wl => (if wj.2 = true then (if wj.1 = true then (if wk.2 = true then (if wk.1 = true then (if wl.2 = true then (if (wl.1 != (x39 == 0)) = true then (some false) else (some true)) else (some false)) else (some false)) else (some false)) else (some false)) else (some false))))) else (some true))
def laws_FnScans.j1 : Nat → List Int → List (S55) → Int → List ByteArray → Bool → Option (Bool)
 | 0, _, _, _, _, _ => none
 | k + 1, x1, x5, x6, x10, x101 => if x101 = true then (some false) else (laws_FnScans.l0 k x1 x5 x6 x10 (x10.length : Int) 0)
def laws_FnScans.l0 : Nat → List Int → List (S55) → Int → List ByteArray → Int → Int → Option (Bool)
 | 0, _, _, _, _, _, _ => none
 | k + 1, x1, x5, x6, f5, jS, ev => if ev < jS then (if 0 ≤ ev then (if ev < (f5.length : Int) then ((impl_OpenTracks.f k x5 ev).bind fun wm => ((spec_OpenTracks.f k x5 ev).bind fun lh => (if wm.2 = true then (if lh.2 = true then ((laws_sameInts.f k wm.1 lh.1).bind fun yR => (if yR = true then (laws_FnScans.j3 k x1 x5 x6 (rdOf ByteArray.empty f5 ev) lh.1 f5 jS ev (((rdOf ByteArray.empty f5 ev).size : Int) != x6)) else (laws_FnScans.j3 k x1 x5 x6 (rdOf ByteArray.empty f5 ev) lh.1 f5 jS ev true))) else (laws_FnScans.j3 k x1 x5 x6 (rdOf ByteArray.empty f5 ev) lh.1 f5 jS ev true)) else (laws_FnScans.j3 k x1 x5 x6 (rdOf ByteArray.empty f5 ev) lh.1 f5 jS ev true)))) else (none)) else (none)) else (laws_FnScans.j5 k x1)
def laws_FnScans.j3 : Nat → List Int → List (S55) → Int → ByteArray → List Int → List ByteArray → Int → Int → Bool → Option (Bool)
 | 0, _, _, _, _, _, _, _, _, _ => none
 | k + 1, x1, x5, x6, x15, x18, f5, jS, ev, x138 => if x138 = true then (some false) else (laws_FnScans.l1 k x1 x5 x6 x15 x18 0 f5 jS ev)
def laws_FnScans.l1 : Nat → List Int → List (S55) → Int → ByteArray → List Int → Int → List ByteArray → Int → Int → Option (Bool)
 | 0, _, _, _, _, _, _, _, _, _ => none
 | k + 1, x1, x5, x6, x15, x18, x20, f5, jS, ev => if x20 < x6 then (if 0 ≤ x20 then (if x20 < (x15.size : Int) then ((laws_pIn.f k x18 x20).bind fun fL => (if (((bt x15 x20) == 111) != fL) = true then (some false) else (laws_FnScans.l1 k x1 x5 x6 x15 x18 (wrap64 (x20 + 1)) f5 jS ev))) else (none)) else (none)) else (laws_FnScans.l0 k x1 x5 x6 f5 jS (wrap64 (ev + 1)))
end
def laws_FnScans.f (k : Nat) (l0 : List Int) (l1 : List Int) : Option (Bool) := (laws_big.f l0 l1).bind fun sM => (if sM = true then (some true) else ((spec_DrawScanOf.f k l0).bind fun ca => ((impl_ScanOf.f k ca.1 ca.2.1 ca.2.2).bind fun ef => ((spec_ScanOf.f k ca.1 ca.2.1 ca.2.2).bind fun gw => (if (ef.2 != gw.2) = true then (laws_FnScans.j0 k l1 ca.1 ca.2.1 ca.2.2 ef.1 ef.2 gw.1 true) else ((laws_pSameTexts.f k ef.1 gw.1).bind fun m5 => (laws_FnScans.j0 k l1 ca.1 ca.2.1 ca.2.2 ef.1 ef.2 gw.1 (!m5))))))))
theorem laws_FnScans.mono_l : ∀ k, (∀ y0 y1 y2 y3 y4 y5 y6 y7, LeO (laws_FnScans.j0 k y0 y1 y2 y3 y4 y5 y6 y7) (laws_FnScans.j0 (k + 1) y0 y1 y2 y3 y4 y5 y6 y7)) ∧ (∀ y0, LeO (laws_FnScans.j5 k y0) (laws_FnScans.j5 (k + 1) y0)) ∧ (∀ y0 y1 y2 y3 y4, LeO (laws_FnScans.j6 k y0 y1 y2 y3 y4) (laws_FnScans.j6 (k + 1) y0 y1 y2 y3 y4)) ∧ (∀ y0, LeO (laws_FnScans.j7 k y0) (laws_FnScans.j7 (k + 1) y0)) ∧ (∀ y0 y1 y2 y3 y4 y5, LeO (laws_FnScans.j8 k y0 y1 y2 y3 y4 y5) (laws_FnScans.j8 (k + 1) y0 y1 y2 y3 y4 y5)) ∧ (∀ y0 y1 y2 y3 y4, LeO (laws_FnScans.j1 k y0 y1 y2 y3 y4) (laws_FnScans.j1 (k + 1) y0 y1 y2 y3 y4)) ∧ (∀ y0 y1 y2 y3 y4 y5, LeO (laws_FnScans.l0 k y0 y1 y2 y3 y4 y5) (laws_FnScans.l0 (k + 1) y0 y1 y2 y3 y4 y5)) ∧ (∀ y0 y1 y2 y3 y4 y5 y6 y7 y8, LeO (laws_FnScans.j3 k y0 y1 y2 y3 y4 y5 y6 y7 y8) (laws_FnScans.j3 (k + 1) y0 y1 y2 y3 y4 y5 y6 y7 y8)) ∧ (∀ y0 y1 y2 y3 y4 y5 y6 y7 y8, LeO (laws_FnScans.l1 k y0 y1 y2 y3 y4 y5 y6 y7 y8) (laws_FnScans.l1 (k + 1) y0 y1 y2 y3 y4 y5 y6 y7 y8))
 | 0 => ⟨fun _ _ _ _ _ _ _ _ r h => by simp [laws_FnScans.j0] at h, fun _ r h => by simp [laws_FnScans.j5] at h, fun _ _ _ _ _ r h => by simp [laws_FnScans.j6] at h, fun _ r h => by simp [laws_FnScans.j7] at h, fun _ _ _ _ _ _ r h => by simp [laws_FnScans.j8] at h, fun _ _ _ _ _ r h => by simp [laws_FnScans.j1] at h, fun _ _ _ _ _ _ r h => by simp [laws_FnScans.l0] at h, fun _ _ _ _ _ _ _ _ _ r h => by simp [laws_FnScans.j3] at h, fun _ _ _ _ _ _ _ _ _ r h => by simp [laws_FnScans.l1] at h⟩
 | k + 1 => by
  obtain ⟨ih0, ih1, ih2, ih3, ih4, ih5, ih6, ih7, ih8⟩ := laws_FnScans.mono_l k
  refine ⟨?_, ?_, ?_, ?_, ?_, ?_, ?_, ?_, ?_⟩
  ·intro y0 y1 y2 y3 y4 y5 y6 y7
   unfold laws_FnScans.j0
   exact mo19_
  ·intro y0
   unfold laws_FnScans.j5
   exact mo19_
  ·intro y0 y1 y2 y3 y4
   unfold laws_FnScans.j6
   exact mo19_
  ·intro y0
   unfold laws_FnScans.j7
   exact mo19_
  ·intro y0 y1 y2 y3 y4 y5
   unfold laws_FnScans.j8
   exact mo19_
  ·intro y0 y1 y2 y3 y4
   unfold laws_FnScans.j1
   exact mo19_
  ·intro y0 y1 y2 y3 y4 y5
   unfold laws_FnScans.l0
   exact mo19_
  ·intro y0 y1 y2 y3 y4 y5 y6 y7 y8
   unfold laws_FnScans.j3
   exact mo19_
  intro y0 y1 y2 y3 y4 y5 y6 y7 y8
  unfold laws_FnScans.l1
  exact mo19_
theorem laws_FnScans.mono : ∀ a0 a1 k, LeO (laws_FnScans.f k a0 a1) (laws_FnScans.f (k + 1) a0 a1) := by
 intro a0 a1 k
 obtain ⟨ih0, ih1, ih2, ih3, ih4, ih5, ih6, ih7, ih8⟩ := laws_FnScans.mono_l k
 unfold laws_FnScans.f
 exact mo19_
def laws_FnScans.Pure : Prop := ∀ (l0 : List Int) (l1 : List Int), l0.length ≤ maxLen → l0.length * 1 ≤ 140737488351232 → (∀ x ∈ l0, (Lit.int .u8 x).wf = true) → l1.length ≤ maxLen → l1.length * 1 ≤ 140737488351232 → (∀ x ∈ l1, (Lit.int .u8 x).wf = true) → ∃ k, laws_FnScans.f k l0 l1 = some true

end Go.Proofs.YtcpbncljimmkfaaGreatDoor.PFnScans
