import Derived.Test.YtcpliaahkcbinaaGreatDoorPFnStrokesx0
import Derived.Test.YtcpliaahkcbinaaGreatDoorPFnStrokesx2
import Derived.Test.YtcpliaahkcbinaaGreatDoorPFnStrokesx3
import Derived.Test.YtcpliaahkcbinaaGreatDoorPFnStrokesx4
import Derived.Test.YtcpliaahkcbinaaGreatDoorPFnStrokesx5
namespace Go.Proofs.YtcpliaahkcbinaaGreatDoor.PFnStrokes
open Go.RowKit Go.Proofs.YtcpliaahkcbinaaGreatDoorW.PrintWords Go.Proofs.YtcpliaahkcbinaaGreatDoorW.PrintLast Go.Proofs.YtcpliaahkcbinaaGreatDoorW.PrintMore
attribute [local go_sem] dS_ dV_ eo_ em_ dw_ dx_ dX_ dU_
set_option linter.unusedVariables false
set_option linter.unusedSimpArgs false
theorem f6_ {p : Prop} (h : p := by repeat' first | (with_reducible first | apply ih0 | apply ih0 | apply ih1 | apply ih1 | apply ih2 | apply ih2 | apply ih3 | apply ih3 | apply ih4 | apply ih4 | apply ih5 | apply ih5 | apply ap_.mono | apply ap_.mono | apply aT_.mono | apply aT_.mono | apply an_.mono | apply an_.mono | apply az_.mono | apply az_.mono | apply bE_.mono | apply bE_.mono | apply aN_.mono | apply aN_.mono | apply bC_.mono | apply bC_.mono | apply aO_.mono | apply aO_.mono | apply aJ_.mono | apply aJ_.mono | apply aI_.mono | apply aI_.mono | apply bs_.mono | apply bs_.mono | apply a3_.mono | apply a3_.mono | apply bm_.mono | apply bm_.mono | apply bq_.mono | apply bq_.mono | apply bu_.mono | apply bu_.mono | apply bf_.mono | apply bf_.mono | apply af_.mono | apply af_.mono | apply ai_.mono | apply ai_.mono | apply ay_.mono | apply ay_.mono | apply bG_.mono | apply bG_.mono | apply aL_.mono | apply aL_.mono | apply aX_.mono | apply aX_.mono | exact LeO.refl _ | exact LeO.none _ | refine LeO.ite ?_ ?_ | refine LeO.bind ?_ (fun _ => ?_)) | exact LeO.none _ | refine LeO.ite ?_ ?_ | refine LeO.bind ?_ (fun _ => ?_)) : p := h
attribute [local go_sem high] kE_
mutual
def laws_FnStrokes.j0 : Nat → List Int → List (S61) → List (S42) → Bool → List (S42) → Bool → Option (Bool)
 | 0, _, _, _, _, _, _ => none
 | k + 1, x1, x5, x6, x7, x8, x70 => if x70 = true then (some false) else (if x7 = true then ((aT_.f k x6).bind fun Ef => ((an_.f k x6).bind fun Au => ((ai_.f k x8).bind fun Av => ((aT_.f k Au.1).bind fun Eg => (if Ef.2 = true then ((aJ_.f k Ef.1 x5).bind fun Iw => (if Iw = true then (if Au.2 = true then (if Av.2 = true then ((aI_.f k Au.1 Av.1).bind fun Ix => (if Ix = true then (if (Av.1.length : Int) = (x8.length : Int) then (if Eg.2 = true then ((aJ_.f k Eg.1 x5).bind fun Iy => (if Iy = true then ((ap_.f k x6).bind fun Iz => (if Iz = true then (laws_FnStrokes.j1 k x1) else (some false))) else (some false))) else (some false)) else (some false)) else (some false))) else (some false)) else (some false)) else (some false))) else (some false)))))) else (laws_FnStrokes.j1 k x1))
def laws_FnStrokes.j1 : Nat → List Int → Option (Bool)
 | 0, _ => none
 | k + 1, x1 => (bq_.f k x1).bind fun ja => ((az_.f k ja.1 ja.2).bind fun lp => ((ay_.f k ja.1 ja.2).bind fun lq => (if (lp.2.2 != lq.2.2) = true then (laws_FnStrokes.j2 k x1 ja.1 ja.2 lp.1 lp.2.2 lq.1 lq.2.1 true) else ((aI_.f k lp.1 lq.1).bind fun IA => (if IA = true then (laws_FnStrokes.j2 k x1 ja.1 ja.2 lp.1 lp.2.2 lq.1 lq.2.1 (lp.2.1 != lq.2.1)) else (laws_FnStrokes.j2 k x1 ja.1 ja.2 lp.1 lp.2.2 lq.1 lq.2.1 true))))))
def laws_FnStrokes.j2 : Nat → List Int → List (S42) → Int → List (S42) → Bool → List (S42) → Int → Bool → Option (Bool)
 | 0, _, _, _, _, _, _, _, _ => none
 | k + 1, x1, x18, x19, x20, x22, x23, x24, x168 => if x168 = true then (some false) else (if x22 = true then ((bC_.f k x20 x19).bind fun Eh => ((bC_.f k x18 x19).bind fun Ei => (if Eh.2 = true then (if Eh.1 = x24 then (if Ei.2 = true then (if Ei.1 < x24 then (laws_FnStrokes.j3 k x1 x18 x20 true) else (if (x23.length : Int) = (x18.length : Int) then (if (x18.length : Int) > 0 then (if 0 < (x23.length : Int) then (if 0 < (x18.length : Int) then (laws_FnStrokes.j3 k x1 x18 x20 (!(((ac_ x23 0).f0) == ((ac_ x18 0).f0)) || (!(((ac_ x23 0).f1) == ((ac_ x18 0).f1))))) else (none)) else (none)) else (laws_FnStrokes.j3 k x1 x18 x20 false)) else (laws_FnStrokes.j3 k x1 x18 x20 true))) else (laws_FnStrokes.j3 k x1 x18 x20 true)) else (laws_FnStrokes.j3 k x1 x18 x20 true)) else (laws_FnStrokes.j3 k x1 x18 x20 true)))) else (laws_FnStrokes.j5 k x1))
def laws_FnStrokes.j5 : Nat → List Int → Option (Bool)
 | 0, _ => none
 | k + 1, x1 => (bm_.f k x1).bind fun cn => ((aT_.f k cn).bind fun Ej => ((af_.f k cn).bind fun Ek => ((bf_.f k x1).bind fun ch => ((aN_.f k ch).bind fun Aw => ((aL_.f k ch).bind fun El => (if (Ej.2 == Ek.2) = true then ((aJ_.f k Ej.1 Ek.1).bind fun IB => (if IB = true then (if (Aw.2 == El.2) = true then (if Aw.1.toList = El.1.toList then ((ap_.f k ch).bind fun xQ => (some (xQ == Aw.2))) else (some false)) else (some false)) else (some false))) else (some false)))))))
def laws_FnStrokes.j3 : Nat → List Int → List (S42) → List (S42) → Bool → Option (Bool)
 | 0, _, _, _, _ => none
 | k + 1, x1, x18, x20, x218 => if x218 = true then (some false) else (laws_FnStrokes.l0 k x1 x18 x20 1)
def laws_FnStrokes.l0 : Nat → List Int → List (S42) → List (S42) → Int → Option (Bool)
 | 0, _, _, _, _ => none
 | k + 1, x1, x18, x20, x30 => if x30 ≤ 5 then ((aO_.f k x18 x30).bind fun Em => ((aO_.f k x20 x30).bind fun En => ((aX_.f k x18 x30).bind fun wO => (if Em.2 = true then (if En.2 = true then (if wO.2 = true then ((a3_.f k Em.1 wO.1).bind fun IC => (if IC = true then ((a3_.f k En.1 wO.1).bind fun ID => (if ID = true then ((bs_.f k wO.1).bind fun lY => (if lY = (x18.length : Int) then (laws_FnStrokes.l0 k x1 x18 x20 (wrap64 (x30 + 1))) else (some false))) else (some false))) else (some false))) else (some false)) else (some false)) else (some false))))) else (laws_FnStrokes.j5 k x1)
end
def laws_FnStrokes.f (k : Nat) (l0 : List Int) (l1 : List Int) : Option (Bool) := (do_.f l0 l1).bind fun Ax => (if Ax = true then (some true) else ((bu_.f k l0).bind fun b6 => ((bE_.f k b6).bind fun fY => ((bG_.f k b6).bind fun lr => (if (fY.2 != lr.2) = true then (laws_FnStrokes.j0 k l1 b6 fY.1 fY.2 lr.1 true) else ((aI_.f k fY.1 lr.1).bind fun sL => (laws_FnStrokes.j0 k l1 b6 fY.1 fY.2 lr.1 (!sL))))))))
theorem laws_FnStrokes.mono_l : ∀ k, (∀ y0 y1 y2 y3 y4 y5, LeO (laws_FnStrokes.j0 k y0 y1 y2 y3 y4 y5) (laws_FnStrokes.j0 (k + 1) y0 y1 y2 y3 y4 y5)) ∧ (∀ y0, LeO (laws_FnStrokes.j1 k y0) (laws_FnStrokes.j1 (k + 1) y0)) ∧ (∀ y0 y1 y2 y3 y4 y5 y6 y7, LeO (laws_FnStrokes.j2 k y0 y1 y2 y3 y4 y5 y6 y7) (laws_FnStrokes.j2 (k + 1) y0 y1 y2 y3 y4 y5 y6 y7)) ∧ (∀ y0, LeO (laws_FnStrokes.j5 k y0) (laws_FnStrokes.j5 (k + 1) y0)) ∧ (∀ y0 y1 y2 y3, LeO (laws_FnStrokes.j3 k y0 y1 y2 y3) (laws_FnStrokes.j3 (k + 1) y0 y1 y2 y3)) ∧ (∀ y0 y1 y2 y3, LeO (laws_FnStrokes.l0 k y0 y1 y2 y3) (laws_FnStrokes.l0 (k + 1) y0 y1 y2 y3))
 | 0 => ⟨fun _ _ _ _ _ _ r h => by simp [laws_FnStrokes.j0] at h, fun _ r h => by simp [laws_FnStrokes.j1] at h, fun _ _ _ _ _ _ _ _ r h => by simp [laws_FnStrokes.j2] at h, fun _ r h => by simp [laws_FnStrokes.j5] at h, fun _ _ _ _ r h => by simp [laws_FnStrokes.j3] at h, fun _ _ _ _ r h => by simp [laws_FnStrokes.l0] at h⟩
 | k + 1 => by
  obtain ⟨ih0, ih1, ih2, ih3, ih4, ih5⟩ := laws_FnStrokes.mono_l k
  refine ⟨?_, ?_, ?_, ?_, ?_, ?_⟩
  ·intro y0 y1 y2 y3 y4 y5
   unfold laws_FnStrokes.j0
   exact f6_
  ·intro y0
   unfold laws_FnStrokes.j1
   exact f6_
  ·intro y0 y1 y2 y3 y4 y5 y6 y7
   unfold laws_FnStrokes.j2
   exact f6_
  ·intro y0
   unfold laws_FnStrokes.j5
   exact f6_
  ·intro y0 y1 y2 y3
   unfold laws_FnStrokes.j3
   exact f6_
  intro y0 y1 y2 y3
  unfold laws_FnStrokes.l0
  exact f6_
theorem laws_FnStrokes.mono : ∀ a0 a1 k, LeO (laws_FnStrokes.f k a0 a1) (laws_FnStrokes.f (k + 1) a0 a1) := by
 intro a0 a1 k
 obtain ⟨ih0, ih1, ih2, ih3, ih4, ih5⟩ := laws_FnStrokes.mono_l k
 unfold laws_FnStrokes.f
 exact f6_
def laws_FnStrokes.Pure : Prop := ∀ (l0 : List Int) (l1 : List Int), l0.length ≤ maxLen → l0.length * 1 ≤ 140737488351232 → (∀ x ∈ l0, (Lit.int .u8 x).wf = true) → l1.length ≤ maxLen → l1.length * 1 ≤ 140737488351232 → (∀ x ∈ l1, (Lit.int .u8 x).wf = true) → ∃ k, laws_FnStrokes.f k l0 l1 = some true
end Go.Proofs.YtcpliaahkcbinaaGreatDoor.PFnStrokes
