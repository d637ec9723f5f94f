-- written by a program of this session: the kit's print, with outer functions of the session's own (wip/ext)
import Derived.Test.YtjogodnkcjhdiaaPFnSpoolsx0
import Derived.Test.YtjogodnkcjhdiaaPFnSpoolsx2
import Derived.Test.YtjogodnkcjhdiaaPFnSpoolsx3
import Derived.Test.YtjogodnkcjhdiaaPFnSpoolsx4
import Derived.Test.YtjogodnkcjhdiaaPFnSpoolsx5
import Derived.Test.YtjogodnkcjhdiaaPFnSpoolsx6
import Derived.Test.YtjogodnkcjhdiaaPFnSpoolsx7
namespace Go.Proofs.Ytjogodnkcjhdiaa.PFnSpools
open Go.RowKit Go.Proofs.YtjogodnkcjhdiaaW.PrintWords Go.Proofs.YtjogodnkcjhdiaaW.PrintLast Go.Proofs.YtjogodnkcjhdiaaW.PrintMore
attribute [local go_sem] max2_int min2_int max_two min_two max_three min_three max_four min_four   -- for this text's walks alone
set_option linter.unusedVariables false
set_option linter.unusedSimpArgs false

theorem ex_32 {α : Type} {p : α → α → α → α → α → α → α → α → α → α → α → α → α → α → α → α → α → α → α → α → α → α → α → α → α → α → α → α → α → α → α → α → Prop} (a0 a1 a2 a3 a4 a5 a6 a7 a8 a9 a10 a11 a12 a13 a14 a15 a16 a17 a18 a19 a20 a21 a22 a23 a24 a25 a26 a27 a28 a29 a30 a31 : α) (h : p a0 a1 a2 a3 a4 a5 a6 a7 a8 a9 a10 a11 a12 a13 a14 a15 a16 a17 a18 a19 a20 a21 a22 a23 a24 a25 a26 a27 a28 a29 a30 a31) : ∃ a0 a1 a2 a3 a4 a5 a6 a7 a8 a9 a10 a11 a12 a13 a14 a15 a16 a17 a18 a19 a20 a21 a22 a23 a24 a25 a26 a27 a28 a29 a30 a31, p a0 a1 a2 a3 a4 a5 a6 a7 a8 a9 a10 a11 a12 a13 a14 a15 a16 a17 a18 a19 a20 a21 a22 a23 a24 a25 a26 a27 a28 a29 a30 a31 := ⟨a0, a1, a2, a3, a4, a5, a6, a7, a8, a9, a10, a11, a12, a13, a14, a15, a16, a17, a18, a19, a20, a21, a22, a23, a24, a25, a26, a27, a28, a29, a30, a31, h⟩
theorem ex_8 {α : Type} {p : α → α → α → α → α → α → α → α → Prop} (a0 a1 a2 a3 a4 a5 a6 a7 : α) (h : p a0 a1 a2 a3 a4 a5 a6 a7) : ∃ a0 a1 a2 a3 a4 a5 a6 a7, p a0 a1 a2 a3 a4 a5 a6 a7 := ⟨a0, a1, a2, a3, a4, a5, a6, a7, h⟩
/-! ### laws_FnSpools: function 10 -/
mutual
def laws_FnSpools.j0 : Nat → Int → Bool → Int → Int → List Int → Bool → Int → Int → Int → Bool → Int → Int → Bool → Int → Bool → Int → Int → Int → Int → Int → Int → Int → Int → Int → Int → Int → Int → Option (Bool)
 | 0, _, _, _, _, _, _, _, _, _, _, _, _, _, _, _, _, _, _, _, _, _, _, _, _, _, _, _ => none
 | k + 1, x6, x8, x9, x13, x16, x19, x20, x21, x24, x26, x27, x30, x32, x33, x202, x395000, x395001, x395002, x410000, x410001, x410002, x421000, x421001, x421002, x430000, x430001, x430002 => if x202 = true then (some false) else (if x26 = true then ((impl_SpeedRatio.f k x421000 x421001 x421002 x24).bind fun bt434 => ((impl_TurnLength.f x421000 x421001 x421002 0).bind fun bt437 => (if bt434.2.2 = true then (if bt437.2 = true then (if bt434.2.1 < 1 then (some false) else (if (wrap64 (bt434.1 * bt437.1)) = (wrap64 (x27 * bt434.2.1)) then (laws_FnSpools.j1 k x6 x8 x9 x13 x16 x19 x20 x21 x30 x32 x33 x395000 x395001 x395002 x410000 x410001 x410002 x430000 x430001 x430002) else (some false))) else (some false)) else (some false)))) else (laws_FnSpools.j1 k x6 x8 x9 x13 x16 x19 x20 x21 x30 x32 x33 x395000 x395001 x395002 x410000 x410001 x410002 x430000 x430001 x430002))
def laws_FnSpools.j1 : Nat → Int → Bool → Int → Int → List Int → Bool → Int → Int → Int → Bool → Int → Int → Int → Int → Int → Int → Int → Int → Int → Int → Option (Bool)
 | 0, _, _, _, _, _, _, _, _, _, _, _, _, _, _, _, _, _, _, _, _ => none
 | k + 1, x6, x8, x9, x13, x16, x19, x20, x21, x30, x32, x33, x395000, x395001, x395002, x410000, x410001, x410002, x430000, x430001, x430002 => if x19 = true then ((impl_LengthOf.f x410000 x410001 x410002).bind fun bt439 => ((spec_LengthOf.f x410000 x410001 x410002).bind fun bt441 => (if 0 ≤ x20 then (if x20 ≤ (x16.length : Int) then ((some (x16.take (x20 : Int).toNat : List Int)).bind fun y443 => (laws_FnSpools.l0 k x6 x8 x9 x13 x16 x20 x21 x30 x32 x33 bt439.1 bt439.2 bt441.1 bt441.2 0 y443 (y443.length : Int) 0 x395000 x395001 x395002 x430000 x430001 x430002)) else (none)) else (none)))) else (laws_FnSpools.j3 k x6 x8 x9 x13 x30 x32 x33 x395000 x395001 x395002 x430000 x430001 x430002)
def laws_FnSpools.j3 : Nat → Int → Bool → Int → Int → Int → Bool → Int → Int → Int → Int → Int → Int → Int → Option (Bool)
 | 0, _, _, _, _, _, _, _, _, _, _, _, _, _ => none
 | k + 1, x6, x8, x9, x13, x30, x32, x33, x395000, x395001, x395002, x430000, x430001, x430002 => if x32 = true then (laws_FnSpools.j4 k x6 x8 x9 x13 x30 x33 (decide (x30 ≥ 8)) x395000 x395001 x395002 x430000 x430001 x430002) else (laws_FnSpools.j4 k x6 x8 x9 x13 x30 x33 false x395000 x395001 x395002 x430000 x430001 x430002)
def laws_FnSpools.j4 : Nat → Int → Bool → Int → Int → Int → Int → Bool → Int → Int → Int → Int → Int → Int → Option (Bool)
 | 0, _, _, _, _, _, _, _, _, _, _, _, _, _ => none
 | k + 1, x6, x8, x9, x13, x30, x33, x294, x395000, x395001, x395002, x430000, x430001, x430002 => if x294 = true then ((impl_LengthWound.f x430000 x430001 x430002 (wrap64 (x30 - 8))).bind fun bt449 => ((spec_LengthWound.f x430000 x430001 x430002 (wrap64 (x30 - 8))).bind fun bt451 => (if bt449.2 = true then (if bt451.2 = true then (if bt449.1 = bt451.1 then (if bt451.1 ≥ x33 then (some false) else (laws_FnSpools.j5 k x6 x8 x9 x13 x395000 x395001 x395002)) else (some false)) else (some false)) else (some false)))) else (laws_FnSpools.j5 k x6 x8 x9 x13 x395000 x395001 x395002)
def laws_FnSpools.j5 : Nat → Int → Bool → Int → Int → Int → Int → Int → Option (Bool)
 | 0, _, _, _, _, _, _, _ => none
 | k + 1, x6, x8, x9, x13, x395000, x395001, x395002 => if x8 = true then ((impl_LengthWound.f x395000 x395001 x395002 x9).bind fun bt453 => ((spec_LengthWound.f x395000 x395001 x395002 x9).bind fun bt455 => (if bt453.2 = true then (if bt455.2 = true then (if bt453.1 = bt455.1 then (if bt455.1 < (wrap64 (8 * x6)) then (laws_FnSpools.j6 k x6 x9 true x395000 x395001 x395002) else (laws_FnSpools.j6 k x6 x9 (x13 != (wrap64 (Int.tdiv (wrap64 (x9 + 7)) 8))) x395000 x395001 x395002)) else (laws_FnSpools.j6 k x6 x9 true x395000 x395001 x395002)) else (laws_FnSpools.j6 k x6 x9 true x395000 x395001 x395002)) else (laws_FnSpools.j6 k x6 x9 true x395000 x395001 x395002)))) else (some true)
def laws_FnSpools.j6 : Nat → Int → Int → Bool → Int → Int → Int → Option (Bool)
 | 0, _, _, _, _, _, _ => none
 | k + 1, x6, x9, x362, x395000, x395001, x395002 => if x362 = true then (some false) else (if x9 > 0 then ((impl_LengthWound.f x395000 x395001 x395002 (wrap64 (x9 - 1))).bind fun bt457 => (if bt457.2 = true then (if bt457.1 ≥ (wrap64 (8 * x6)) then (some false) else (some true)) else (some false))) else (some true))
def laws_FnSpools.l0 : Nat → Int → Bool → Int → Int → List Int → Int → Int → Int → Bool → Int → Int → Bool → Int → Bool → Int → List Int → Int → Int → Int → Int → Int → Int → Int → Int → Option (Bool)
 | 0, _, _, _, _, _, _, _, _, _, _, _, _, _, _, _, _, _, _, _, _, _, _, _, _ => none
 | k + 1, x6, x8, x9, x13, x16, x20, x21, x30, x32, x33, x40, x41, x42, x43, x44, x248, x249, x250, x395000, x395001, x395002, x430000, x430001, x430002 => if x250 < x249 then (if 0 ≤ x250 then (if x250 < (x248.length : Int) then (laws_FnSpools.l0 k x6 x8 x9 x13 x16 x20 x21 x30 x32 x33 x40 x41 x42 x43 (wrap64 (x44 + (rd x248 x250))) x248 x249 (wrap64 (x250 + 1)) x395000 x395001 x395002 x430000 x430001 x430002) else (none)) else (none)) else (if x41 = true then (if x43 = true then (if x40 = x42 then (if (wrap64 (x44 + x21)) = x42 then (if x20 < (x16.length : Int) then (if 0 ≤ x20 then (if (rd x16 x20) ≤ x21 then (some false) else (laws_FnSpools.j3 k x6 x8 x9 x13 x30 x32 x33 x395000 x395001 x395002 x430000 x430001 x430002)) else (none)) else (laws_FnSpools.j3 k x6 x8 x9 x13 x30 x32 x33 x395000 x395001 x395002 x430000 x430001 x430002)) else (some false)) else (some false)) else (some false)) else (some false))
end
def laws_FnSpools.f (k : Nat) (l0 : List Int) (l1 : List Int) : Option (Bool) := if (wrap64 ((l0.length : Int) + (l1.length : Int))) > 1048576 then (some true) else ((spec_DrawEighthsFor.f k l0).bind fun bt390 => ((impl_EighthsFor.f k bt390.1 bt390.2.1 bt390.2.2.1 bt390.2.2.2).bind fun bt395 => ((spec_EighthsFor.f k bt390.1 bt390.2.1 bt390.2.2.1 bt390.2.2.2).bind fun bt397 => ((impl_TurnsFor.f k bt390.1 bt390.2.1 bt390.2.2.1 bt390.2.2.2).bind fun bt399 => ((spec_TurnsFor.f k bt390.1 bt390.2.1 bt390.2.2.1 bt390.2.2.2).bind fun bt401 => ((spec_DrawPiecesOn.f k l1).bind fun bt403 => ((impl_PiecesOn.f k bt403.1 bt403.2.1 bt403.2.2.1 bt403.2.2.2).bind fun bt410 => ((spec_PiecesOn.f k bt403.1 bt403.2.1 bt403.2.2.1 bt403.2.2.2).bind fun bt413 => ((spec_DrawTurnLength.f l1).bind fun bt416 => ((impl_TurnLength.f bt416.1 bt416.2.1 bt416.2.2.1 bt416.2.2.2).bind fun bt421 => ((spec_TurnLength.f bt416.1 bt416.2.1 bt416.2.2.1 bt416.2.2.2).bind fun bt423 => ((spec_DrawLengthWound.f l1).bind fun bt425 => ((impl_LengthWound.f bt425.1 bt425.2.1 bt425.2.2.1 bt425.2.2.2).bind fun bt430 => ((spec_LengthWound.f bt425.1 bt425.2.1 bt425.2.2.1 bt425.2.2.2).bind fun bt432 => (if (bt395.2 != bt397.2) = true then (laws_FnSpools.j0 k bt390.2.2.2 bt395.2 bt397.1 bt401.1 bt403.2.2.2 bt410.2.2 bt413.1 bt413.2.1 bt416.2.2.2 bt421.2 bt423.1 bt425.2.2.2 bt430.2 bt432.1 true bt390.1 bt390.2.1 bt390.2.2.1 bt403.1 bt403.2.1 bt403.2.2.1 bt416.1 bt416.2.1 bt416.2.2.1 bt425.1 bt425.2.1 bt425.2.2.1) else (if bt395.1 = bt397.1 then (if (bt399.2 != bt401.2) = true then (laws_FnSpools.j0 k bt390.2.2.2 bt395.2 bt397.1 bt401.1 bt403.2.2.2 bt410.2.2 bt413.1 bt413.2.1 bt416.2.2.2 bt421.2 bt423.1 bt425.2.2.2 bt430.2 bt432.1 true bt390.1 bt390.2.1 bt390.2.2.1 bt403.1 bt403.2.1 bt403.2.2.1 bt416.1 bt416.2.1 bt416.2.2.1 bt425.1 bt425.2.1 bt425.2.2.1) else (if bt399.1 = bt401.1 then (if (bt410.2.2 != bt413.2.2) = true then (laws_FnSpools.j0 k bt390.2.2.2 bt395.2 bt397.1 bt401.1 bt403.2.2.2 bt410.2.2 bt413.1 bt413.2.1 bt416.2.2.2 bt421.2 bt423.1 bt425.2.2.2 bt430.2 bt432.1 true bt390.1 bt390.2.1 bt390.2.2.1 bt403.1 bt403.2.1 bt403.2.2.1 bt416.1 bt416.2.1 bt416.2.2.1 bt425.1 bt425.2.1 bt425.2.2.1) else (if bt410.1 = bt413.1 then (if bt410.2.1 = bt413.2.1 then (if (bt421.2 != bt423.2) = true then (laws_FnSpools.j0 k bt390.2.2.2 bt395.2 bt397.1 bt401.1 bt403.2.2.2 bt410.2.2 bt413.1 bt413.2.1 bt416.2.2.2 bt421.2 bt423.1 bt425.2.2.2 bt430.2 bt432.1 true bt390.1 bt390.2.1 bt390.2.2.1 bt403.1 bt403.2.1 bt403.2.2.1 bt416.1 bt416.2.1 bt416.2.2.1 bt425.1 bt425.2.1 bt425.2.2.1) else (if bt421.1 = bt423.1 then (if (bt430.2 != bt432.2) = true then (laws_FnSpools.j0 k bt390.2.2.2 bt395.2 bt397.1 bt401.1 bt403.2.2.2 bt410.2.2 bt413.1 bt413.2.1 bt416.2.2.2 bt421.2 bt423.1 bt425.2.2.2 bt430.2 bt432.1 true bt390.1 bt390.2.1 bt390.2.2.1 bt403.1 bt403.2.1 bt403.2.2.1 bt416.1 bt416.2.1 bt416.2.2.1 bt425.1 bt425.2.1 bt425.2.2.1) else (if bt430.1 = bt432.1 then (laws_FnSpools.j0 k bt390.2.2.2 bt395.2 bt397.1 bt401.1 bt403.2.2.2 bt410.2.2 bt413.1 bt413.2.1 bt416.2.2.2 bt421.2 bt423.1 bt425.2.2.2 bt430.2 bt432.1 (bt399.2 != bt395.2) bt390.1 bt390.2.1 bt390.2.2.1 bt403.1 bt403.2.1 bt403.2.2.1 bt416.1 bt416.2.1 bt416.2.2.1 bt425.1 bt425.2.1 bt425.2.2.1) else (laws_FnSpools.j0 k bt390.2.2.2 bt395.2 bt397.1 bt401.1 bt403.2.2.2 bt410.2.2 bt413.1 bt413.2.1 bt416.2.2.2 bt421.2 bt423.1 bt425.2.2.2 bt430.2 bt432.1 true bt390.1 bt390.2.1 bt390.2.2.1 bt403.1 bt403.2.1 bt403.2.2.1 bt416.1 bt416.2.1 bt416.2.2.1 bt425.1 bt425.2.1 bt425.2.2.1))) else (laws_FnSpools.j0 k bt390.2.2.2 bt395.2 bt397.1 bt401.1 bt403.2.2.2 bt410.2.2 bt413.1 bt413.2.1 bt416.2.2.2 bt421.2 bt423.1 bt425.2.2.2 bt430.2 bt432.1 true bt390.1 bt390.2.1 bt390.2.2.1 bt403.1 bt403.2.1 bt403.2.2.1 bt416.1 bt416.2.1 bt416.2.2.1 bt425.1 bt425.2.1 bt425.2.2.1))) else (laws_FnSpools.j0 k bt390.2.2.2 bt395.2 bt397.1 bt401.1 bt403.2.2.2 bt410.2.2 bt413.1 bt413.2.1 bt416.2.2.2 bt421.2 bt423.1 bt425.2.2.2 bt430.2 bt432.1 true bt390.1 bt390.2.1 bt390.2.2.1 bt403.1 bt403.2.1 bt403.2.2.1 bt416.1 bt416.2.1 bt416.2.2.1 bt425.1 bt425.2.1 bt425.2.2.1)) else (laws_FnSpools.j0 k bt390.2.2.2 bt395.2 bt397.1 bt401.1 bt403.2.2.2 bt410.2.2 bt413.1 bt413.2.1 bt416.2.2.2 bt421.2 bt423.1 bt425.2.2.2 bt430.2 bt432.1 true bt390.1 bt390.2.1 bt390.2.2.1 bt403.1 bt403.2.1 bt403.2.2.1 bt416.1 bt416.2.1 bt416.2.2.1 bt425.1 bt425.2.1 bt425.2.2.1))) else (laws_FnSpools.j0 k bt390.2.2.2 bt395.2 bt397.1 bt401.1 bt403.2.2.2 bt410.2.2 bt413.1 bt413.2.1 bt416.2.2.2 bt421.2 bt423.1 bt425.2.2.2 bt430.2 bt432.1 true bt390.1 bt390.2.1 bt390.2.2.1 bt403.1 bt403.2.1 bt403.2.2.1 bt416.1 bt416.2.1 bt416.2.2.1 bt425.1 bt425.2.1 bt425.2.2.1))) else (laws_FnSpools.j0 k bt390.2.2.2 bt395.2 bt397.1 bt401.1 bt403.2.2.2 bt410.2.2 bt413.1 bt413.2.1 bt416.2.2.2 bt421.2 bt423.1 bt425.2.2.2 bt430.2 bt432.1 true bt390.1 bt390.2.1 bt390.2.2.1 bt403.1 bt403.2.1 bt403.2.2.1 bt416.1 bt416.2.1 bt416.2.2.1 bt425.1 bt425.2.1 bt425.2.2.1)))))))))))))))))
theorem laws_FnSpools.mono_l : ∀ k, (∀ y0 y1 y2 y3 y4 y5 y6 y7 y8 y9 y10 y11 y12 y13 y14 y15 y16 y17 y18 y19 y20 y21 y22 y23 y24 y25 y26, LeO (laws_FnSpools.j0 k y0 y1 y2 y3 y4 y5 y6 y7 y8 y9 y10 y11 y12 y13 y14 y15 y16 y17 y18 y19 y20 y21 y22 y23 y24 y25 y26) (laws_FnSpools.j0 (k + 1) y0 y1 y2 y3 y4 y5 y6 y7 y8 y9 y10 y11 y12 y13 y14 y15 y16 y17 y18 y19 y20 y21 y22 y23 y24 y25 y26)) ∧ (∀ y0 y1 y2 y3 y4 y5 y6 y7 y8 y9 y10 y11 y12 y13 y14 y15 y16 y17 y18 y19, LeO (laws_FnSpools.j1 k y0 y1 y2 y3 y4 y5 y6 y7 y8 y9 y10 y11 y12 y13 y14 y15 y16 y17 y18 y19) (laws_FnSpools.j1 (k + 1) y0 y1 y2 y3 y4 y5 y6 y7 y8 y9 y10 y11 y12 y13 y14 y15 y16 y17 y18 y19)) ∧ (∀ y0 y1 y2 y3 y4 y5 y6 y7 y8 y9 y10 y11 y12, LeO (laws_FnSpools.j3 k y0 y1 y2 y3 y4 y5 y6 y7 y8 y9 y10 y11 y12) (laws_FnSpools.j3 (k + 1) y0 y1 y2 y3 y4 y5 y6 y7 y8 y9 y10 y11 y12)) ∧ (∀ y0 y1 y2 y3 y4 y5 y6 y7 y8 y9 y10 y11 y12, LeO (laws_FnSpools.j4 k y0 y1 y2 y3 y4 y5 y6 y7 y8 y9 y10 y11 y12) (laws_FnSpools.j4 (k + 1) y0 y1 y2 y3 y4 y5 y6 y7 y8 y9 y10 y11 y12)) ∧ (∀ y0 y1 y2 y3 y4 y5 y6, LeO (laws_FnSpools.j5 k y0 y1 y2 y3 y4 y5 y6) (laws_FnSpools.j5 (k + 1) y0 y1 y2 y3 y4 y5 y6)) ∧ (∀ y0 y1 y2 y3 y4 y5, LeO (laws_FnSpools.j6 k y0 y1 y2 y3 y4 y5) (laws_FnSpools.j6 (k + 1) y0 y1 y2 y3 y4 y5)) ∧ (∀ y0 y1 y2 y3 y4 y5 y6 y7 y8 y9 y10 y11 y12 y13 y14 y15 y16 y17 y18 y19 y20 y21 y22 y23, LeO (laws_FnSpools.l0 k y0 y1 y2 y3 y4 y5 y6 y7 y8 y9 y10 y11 y12 y13 y14 y15 y16 y17 y18 y19 y20 y21 y22 y23) (laws_FnSpools.l0 (k + 1) y0 y1 y2 y3 y4 y5 y6 y7 y8 y9 y10 y11 y12 y13 y14 y15 y16 y17 y18 y19 y20 y21 y22 y23))
 | 0 => ⟨fun _ _ _ _ _ _ _ _ _ _ _ _ _ _ _ _ _ _ _ _ _ _ _ _ _ _ _ r h => by simp [laws_FnSpools.j0] at h, fun _ _ _ _ _ _ _ _ _ _ _ _ _ _ _ _ _ _ _ _ r h => by simp [laws_FnSpools.j1] at h, fun _ _ _ _ _ _ _ _ _ _ _ _ _ r h => by simp [laws_FnSpools.j3] at h, fun _ _ _ _ _ _ _ _ _ _ _ _ _ r h => by simp [laws_FnSpools.j4] at h, fun _ _ _ _ _ _ _ r h => by simp [laws_FnSpools.j5] at h, fun _ _ _ _ _ _ r h => by simp [laws_FnSpools.j6] at h, fun _ _ _ _ _ _ _ _ _ _ _ _ _ _ _ _ _ _ _ _ _ _ _ _ r h => by simp [laws_FnSpools.l0] at h⟩
 | k + 1 => by
  obtain ⟨ih0, ih1, ih2, ih3, ih4, ih5, ih6⟩ := laws_FnSpools.mono_l k
  refine ⟨?_, ?_, ?_, ?_, ?_, ?_, ?_⟩
  ·intro y0 y1 y2 y3 y4 y5 y6 y7 y8 y9 y10 y11 y12 y13 y14 y15 y16 y17 y18 y19 y20 y21 y22 y23 y24 y25 y26
   unfold laws_FnSpools.j0
   repeat' first
   | (with_reducible exact ih0 _ _ _ _ _ _ _ _ _ _ _ _ _ _ _ _ _ _ _ _ _ _ _ _ _ _ _)
   | (with_reducible exact ih1 _ _ _ _ _ _ _ _ _ _ _ _ _ _ _ _ _ _ _ _)
   | (with_reducible exact ih2 _ _ _ _ _ _ _ _ _ _ _ _ _)
   | (with_reducible exact ih3 _ _ _ _ _ _ _ _ _ _ _ _ _)
   | (with_reducible exact ih4 _ _ _ _ _ _ _)
   | (with_reducible exact ih5 _ _ _ _ _ _)
   | (with_reducible exact ih6 _ _ _ _ _ _ _ _ _ _ _ _ _ _ _ _ _ _ _ _ _ _ _ _)
   | (with_reducible exact impl_EighthsFor.mono _ _ _ _ _)
   | (with_reducible exact impl_PiecesOn.mono _ _ _ _ _)
   | (with_reducible exact impl_SpeedRatio.mono _ _ _ _ _)
   | (with_reducible exact impl_TurnsFor.mono _ _ _ _ _)
   | (with_reducible exact spec_DrawEighthsFor.mono _ _)
   | (with_reducible exact spec_DrawPiecesOn.mono _ _)
   | (with_reducible exact spec_EighthsFor.mono _ _ _ _ _)
   | (with_reducible exact spec_PiecesOn.mono _ _ _ _ _)
   | (with_reducible exact spec_TurnsFor.mono _ _ _ _ _)
   | (with_reducible exact LeO.refl _)
   | (with_reducible exact LeO.none _)
   | (with_reducible refine LeO.ite ?_ ?_)
   | (with_reducible refine LeO.bind ?_ (fun _ => ?_))
   | exact ih0 _ _ _ _ _ _ _ _ _ _ _ _ _ _ _ _ _ _ _ _ _ _ _ _ _ _ _
   | exact ih1 _ _ _ _ _ _ _ _ _ _ _ _ _ _ _ _ _ _ _ _
   | exact ih2 _ _ _ _ _ _ _ _ _ _ _ _ _
   | exact ih3 _ _ _ _ _ _ _ _ _ _ _ _ _
   | exact ih4 _ _ _ _ _ _ _
   | exact ih5 _ _ _ _ _ _
   | exact ih6 _ _ _ _ _ _ _ _ _ _ _ _ _ _ _ _ _ _ _ _ _ _ _ _
   | exact impl_EighthsFor.mono _ _ _ _ _
   | exact impl_PiecesOn.mono _ _ _ _ _
   | exact impl_SpeedRatio.mono _ _ _ _ _
   | exact impl_TurnsFor.mono _ _ _ _ _
   | exact spec_DrawEighthsFor.mono _ _
   | exact spec_DrawPiecesOn.mono _ _
   | exact spec_EighthsFor.mono _ _ _ _ _
   | exact spec_PiecesOn.mono _ _ _ _ _
   | exact spec_TurnsFor.mono _ _ _ _ _
   | exact LeO.none _
   | refine LeO.ite ?_ ?_
   | refine LeO.bind ?_ (fun _ => ?_)
  ·intro y0 y1 y2 y3 y4 y5 y6 y7 y8 y9 y10 y11 y12 y13 y14 y15 y16 y17 y18 y19
   unfold laws_FnSpools.j1
   repeat' first
   | (with_reducible exact ih0 _ _ _ _ _ _ _ _ _ _ _ _ _ _ _ _ _ _ _ _ _ _ _ _ _ _ _)
   | (with_reducible exact ih1 _ _ _ _ _ _ _ _ _ _ _ _ _ _ _ _ _ _ _ _)
   | (with_reducible exact ih2 _ _ _ _ _ _ _ _ _ _ _ _ _)
   | (with_reducible exact ih3 _ _ _ _ _ _ _ _ _ _ _ _ _)
   | (with_reducible exact ih4 _ _ _ _ _ _ _)
   | (with_reducible exact ih5 _ _ _ _ _ _)
   | (with_reducible exact ih6 _ _ _ _ _ _ _ _ _ _ _ _ _ _ _ _ _ _ _ _ _ _ _ _)
   | (with_reducible exact impl_EighthsFor.mono _ _ _ _ _)
   | (with_reducible exact impl_PiecesOn.mono _ _ _ _ _)
   | (with_reducible exact impl_SpeedRatio.mono _ _ _ _ _)
   | (with_reducible exact impl_TurnsFor.mono _ _ _ _ _)
   | (with_reducible exact spec_DrawEighthsFor.mono _ _)
   | (with_reducible exact spec_DrawPiecesOn.mono _ _)
   | (with_reducible exact spec_EighthsFor.mono _ _ _ _ _)
   | (with_reducible exact spec_PiecesOn.mono _ _ _ _ _)
   | (with_reducible exact spec_TurnsFor.mono _ _ _ _ _)
   | (with_reducible exact LeO.refl _)
   | (with_reducible exact LeO.none _)
   | (with_reducible refine LeO.ite ?_ ?_)
   | (with_reducible refine LeO.bind ?_ (fun _ => ?_))
   | exact ih0 _ _ _ _ _ _ _ _ _ _ _ _ _ _ _ _ _ _ _ _ _ _ _ _ _ _ _
   | exact ih1 _ _ _ _ _ _ _ _ _ _ _ _ _ _ _ _ _ _ _ _
   | exact ih2 _ _ _ _ _ _ _ _ _ _ _ _ _
   | exact ih3 _ _ _ _ _ _ _ _ _ _ _ _ _
   | exact ih4 _ _ _ _ _ _ _
   | exact ih5 _ _ _ _ _ _
   | exact ih6 _ _ _ _ _ _ _ _ _ _ _ _ _ _ _ _ _ _ _ _ _ _ _ _
   | exact impl_EighthsFor.mono _ _ _ _ _
   | exact impl_PiecesOn.mono _ _ _ _ _
   | exact impl_SpeedRatio.mono _ _ _ _ _
   | exact impl_TurnsFor.mono _ _ _ _ _
   | exact spec_DrawEighthsFor.mono _ _
   | exact spec_DrawPiecesOn.mono _ _
   | exact spec_EighthsFor.mono _ _ _ _ _
   | exact spec_PiecesOn.mono _ _ _ _ _
   | exact spec_TurnsFor.mono _ _ _ _ _
   | exact LeO.none _
   | refine LeO.ite ?_ ?_
   | refine LeO.bind ?_ (fun _ => ?_)
  ·intro y0 y1 y2 y3 y4 y5 y6 y7 y8 y9 y10 y11 y12
   unfold laws_FnSpools.j3
   repeat' first
   | (with_reducible exact ih0 _ _ _ _ _ _ _ _ _ _ _ _ _ _ _ _ _ _ _ _ _ _ _ _ _ _ _)
   | (with_reducible exact ih1 _ _ _ _ _ _ _ _ _ _ _ _ _ _ _ _ _ _ _ _)
   | (with_reducible exact ih2 _ _ _ _ _ _ _ _ _ _ _ _ _)
   | (with_reducible exact ih3 _ _ _ _ _ _ _ _ _ _ _ _ _)
   | (with_reducible exact ih4 _ _ _ _ _ _ _)
   | (with_reducible exact ih5 _ _ _ _ _ _)
   | (with_reducible exact ih6 _ _ _ _ _ _ _ _ _ _ _ _ _ _ _ _ _ _ _ _ _ _ _ _)
   | (with_reducible exact impl_EighthsFor.mono _ _ _ _ _)
   | (with_reducible exact impl_PiecesOn.mono _ _ _ _ _)
   | (with_reducible exact impl_SpeedRatio.mono _ _ _ _ _)
   | (with_reducible exact impl_TurnsFor.mono _ _ _ _ _)
   | (with_reducible exact spec_DrawEighthsFor.mono _ _)
   | (with_reducible exact spec_DrawPiecesOn.mono _ _)
   | (with_reducible exact spec_EighthsFor.mono _ _ _ _ _)
   | (with_reducible exact spec_PiecesOn.mono _ _ _ _ _)
   | (with_reducible exact spec_TurnsFor.mono _ _ _ _ _)
   | (with_reducible exact LeO.refl _)
   | (with_reducible exact LeO.none _)
   | (with_reducible refine LeO.ite ?_ ?_)
   | (with_reducible refine LeO.bind ?_ (fun _ => ?_))
   | exact ih0 _ _ _ _ _ _ _ _ _ _ _ _ _ _ _ _ _ _ _ _ _ _ _ _ _ _ _
   | exact ih1 _ _ _ _ _ _ _ _ _ _ _ _ _ _ _ _ _ _ _ _
   | exact ih2 _ _ _ _ _ _ _ _ _ _ _ _ _
   | exact ih3 _ _ _ _ _ _ _ _ _ _ _ _ _
   | exact ih4 _ _ _ _ _ _ _
   | exact ih5 _ _ _ _ _ _
   | exact ih6 _ _ _ _ _ _ _ _ _ _ _ _ _ _ _ _ _ _ _ _ _ _ _ _
   | exact impl_EighthsFor.mono _ _ _ _ _
   | exact impl_PiecesOn.mono _ _ _ _ _
   | exact impl_SpeedRatio.mono _ _ _ _ _
   | exact impl_TurnsFor.mono _ _ _ _ _
   | exact spec_DrawEighthsFor.mono _ _
   | exact spec_DrawPiecesOn.mono _ _
   | exact spec_EighthsFor.mono _ _ _ _ _
   | exact spec_PiecesOn.mono _ _ _ _ _
   | exact spec_TurnsFor.mono _ _ _ _ _
   | exact LeO.none _
   | refine LeO.ite ?_ ?_
   | refine LeO.bind ?_ (fun _ => ?_)
  ·intro y0 y1 y2 y3 y4 y5 y6 y7 y8 y9 y10 y11 y12
   unfold laws_FnSpools.j4
   repeat' first
   | (with_reducible exact ih0 _ _ _ _ _ _ _ _ _ _ _ _ _ _ _ _ _ _ _ _ _ _ _ _ _ _ _)
   | (with_reducible exact ih1 _ _ _ _ _ _ _ _ _ _ _ _ _ _ _ _ _ _ _ _)
   | (with_reducible exact ih2 _ _ _ _ _ _ _ _ _ _ _ _ _)
   | (with_reducible exact ih3 _ _ _ _ _ _ _ _ _ _ _ _ _)
   | (with_reducible exact ih4 _ _ _ _ _ _ _)
   | (with_reducible exact ih5 _ _ _ _ _ _)
   | (with_reducible exact ih6 _ _ _ _ _ _ _ _ _ _ _ _ _ _ _ _ _ _ _ _ _ _ _ _)
   | (with_reducible exact impl_EighthsFor.mono _ _ _ _ _)
   | (with_reducible exact impl_PiecesOn.mono _ _ _ _ _)
   | (with_reducible exact impl_SpeedRatio.mono _ _ _ _ _)
   | (with_reducible exact impl_TurnsFor.mono _ _ _ _ _)
   | (with_reducible exact spec_DrawEighthsFor.mono _ _)
   | (with_reducible exact spec_DrawPiecesOn.mono _ _)
   | (with_reducible exact spec_EighthsFor.mono _ _ _ _ _)
   | (with_reducible exact spec_PiecesOn.mono _ _ _ _ _)
   | (with_reducible exact spec_TurnsFor.mono _ _ _ _ _)
   | (with_reducible exact LeO.refl _)
   | (with_reducible exact LeO.none _)
   | (with_reducible refine LeO.ite ?_ ?_)
   | (with_reducible refine LeO.bind ?_ (fun _ => ?_))
   | exact ih0 _ _ _ _ _ _ _ _ _ _ _ _ _ _ _ _ _ _ _ _ _ _ _ _ _ _ _
   | exact ih1 _ _ _ _ _ _ _ _ _ _ _ _ _ _ _ _ _ _ _ _
   | exact ih2 _ _ _ _ _ _ _ _ _ _ _ _ _
   | exact ih3 _ _ _ _ _ _ _ _ _ _ _ _ _
   | exact ih4 _ _ _ _ _ _ _
   | exact ih5 _ _ _ _ _ _
   | exact ih6 _ _ _ _ _ _ _ _ _ _ _ _ _ _ _ _ _ _ _ _ _ _ _ _
   | exact impl_EighthsFor.mono _ _ _ _ _
   | exact impl_PiecesOn.mono _ _ _ _ _
   | exact impl_SpeedRatio.mono _ _ _ _ _
   | exact impl_TurnsFor.mono _ _ _ _ _
   | exact spec_DrawEighthsFor.mono _ _
   | exact spec_DrawPiecesOn.mono _ _
   | exact spec_EighthsFor.mono _ _ _ _ _
   | exact spec_PiecesOn.mono _ _ _ _ _
   | exact spec_TurnsFor.mono _ _ _ _ _
   | exact LeO.none _
   | refine LeO.ite ?_ ?_
   | refine LeO.bind ?_ (fun _ => ?_)
  ·intro y0 y1 y2 y3 y4 y5 y6
   unfold laws_FnSpools.j5
   repeat' first
   | (with_reducible exact ih0 _ _ _ _ _ _ _ _ _ _ _ _ _ _ _ _ _ _ _ _ _ _ _ _ _ _ _)
   | (with_reducible exact ih1 _ _ _ _ _ _ _ _ _ _ _ _ _ _ _ _ _ _ _ _)
   | (with_reducible exact ih2 _ _ _ _ _ _ _ _ _ _ _ _ _)
   | (with_reducible exact ih3 _ _ _ _ _ _ _ _ _ _ _ _ _)
   | (with_reducible exact ih4 _ _ _ _ _ _ _)
   | (with_reducible exact ih5 _ _ _ _ _ _)
   | (with_reducible exact ih6 _ _ _ _ _ _ _ _ _ _ _ _ _ _ _ _ _ _ _ _ _ _ _ _)
   | (with_reducible exact impl_EighthsFor.mono _ _ _ _ _)
   | (with_reducible exact impl_PiecesOn.mono _ _ _ _ _)
   | (with_reducible exact impl_SpeedRatio.mono _ _ _ _ _)
   | (with_reducible exact impl_TurnsFor.mono _ _ _ _ _)
   | (with_reducible exact spec_DrawEighthsFor.mono _ _)
   | (with_reducible exact spec_DrawPiecesOn.mono _ _)
   | (with_reducible exact spec_EighthsFor.mono _ _ _ _ _)
   | (with_reducible exact spec_PiecesOn.mono _ _ _ _ _)
   | (with_reducible exact spec_TurnsFor.mono _ _ _ _ _)
   | (with_reducible exact LeO.refl _)
   | (with_reducible exact LeO.none _)
   | (with_reducible refine LeO.ite ?_ ?_)
   | (with_reducible refine LeO.bind ?_ (fun _ => ?_))
   | exact ih0 _ _ _ _ _ _ _ _ _ _ _ _ _ _ _ _ _ _ _ _ _ _ _ _ _ _ _
   | exact ih1 _ _ _ _ _ _ _ _ _ _ _ _ _ _ _ _ _ _ _ _
   | exact ih2 _ _ _ _ _ _ _ _ _ _ _ _ _
   | exact ih3 _ _ _ _ _ _ _ _ _ _ _ _ _
   | exact ih4 _ _ _ _ _ _ _
   | exact ih5 _ _ _ _ _ _
   | exact ih6 _ _ _ _ _ _ _ _ _ _ _ _ _ _ _ _ _ _ _ _ _ _ _ _
   | exact impl_EighthsFor.mono _ _ _ _ _
   | exact impl_PiecesOn.mono _ _ _ _ _
   | exact impl_SpeedRatio.mono _ _ _ _ _
   | exact impl_TurnsFor.mono _ _ _ _ _
   | exact spec_DrawEighthsFor.mono _ _
   | exact spec_DrawPiecesOn.mono _ _
   | exact spec_EighthsFor.mono _ _ _ _ _
   | exact spec_PiecesOn.mono _ _ _ _ _
   | exact spec_TurnsFor.mono _ _ _ _ _
   | exact LeO.none _
   | refine LeO.ite ?_ ?_
   | refine LeO.bind ?_ (fun _ => ?_)
  ·intro y0 y1 y2 y3 y4 y5
   unfold laws_FnSpools.j6
   repeat' first
   | (with_reducible exact ih0 _ _ _ _ _ _ _ _ _ _ _ _ _ _ _ _ _ _ _ _ _ _ _ _ _ _ _)
   | (with_reducible exact ih1 _ _ _ _ _ _ _ _ _ _ _ _ _ _ _ _ _ _ _ _)
   | (with_reducible exact ih2 _ _ _ _ _ _ _ _ _ _ _ _ _)
   | (with_reducible exact ih3 _ _ _ _ _ _ _ _ _ _ _ _ _)
   | (with_reducible exact ih4 _ _ _ _ _ _ _)
   | (with_reducible exact ih5 _ _ _ _ _ _)
   | (with_reducible exact ih6 _ _ _ _ _ _ _ _ _ _ _ _ _ _ _ _ _ _ _ _ _ _ _ _)
   | (with_reducible exact impl_EighthsFor.mono _ _ _ _ _)
   | (with_reducible exact impl_PiecesOn.mono _ _ _ _ _)
   | (with_reducible exact impl_SpeedRatio.mono _ _ _ _ _)
   | (with_reducible exact impl_TurnsFor.mono _ _ _ _ _)
   | (with_reducible exact spec_DrawEighthsFor.mono _ _)
   | (with_reducible exact spec_DrawPiecesOn.mono _ _)
   | (with_reducible exact spec_EighthsFor.mono _ _ _ _ _)
   | (with_reducible exact spec_PiecesOn.mono _ _ _ _ _)
   | (with_reducible exact spec_TurnsFor.mono _ _ _ _ _)
   | (with_reducible exact LeO.refl _)
   | (with_reducible exact LeO.none _)
   | (with_reducible refine LeO.ite ?_ ?_)
   | (with_reducible refine LeO.bind ?_ (fun _ => ?_))
   | exact ih0 _ _ _ _ _ _ _ _ _ _ _ _ _ _ _ _ _ _ _ _ _ _ _ _ _ _ _
   | exact ih1 _ _ _ _ _ _ _ _ _ _ _ _ _ _ _ _ _ _ _ _
   | exact ih2 _ _ _ _ _ _ _ _ _ _ _ _ _
   | exact ih3 _ _ _ _ _ _ _ _ _ _ _ _ _
   | exact ih4 _ _ _ _ _ _ _
   | exact ih5 _ _ _ _ _ _
   | exact ih6 _ _ _ _ _ _ _ _ _ _ _ _ _ _ _ _ _ _ _ _ _ _ _ _
   | exact impl_EighthsFor.mono _ _ _ _ _
   | exact impl_PiecesOn.mono _ _ _ _ _
   | exact impl_SpeedRatio.mono _ _ _ _ _
   | exact impl_TurnsFor.mono _ _ _ _ _
   | exact spec_DrawEighthsFor.mono _ _
   | exact spec_DrawPiecesOn.mono _ _
   | exact spec_EighthsFor.mono _ _ _ _ _
   | exact spec_PiecesOn.mono _ _ _ _ _
   | exact spec_TurnsFor.mono _ _ _ _ _
   | exact LeO.none _
   | refine LeO.ite ?_ ?_
   | refine LeO.bind ?_ (fun _ => ?_)
  ·intro y0 y1 y2 y3 y4 y5 y6 y7 y8 y9 y10 y11 y12 y13 y14 y15 y16 y17 y18 y19 y20 y21 y22 y23
   unfold laws_FnSpools.l0
   repeat' first
   | (with_reducible exact ih0 _ _ _ _ _ _ _ _ _ _ _ _ _ _ _ _ _ _ _ _ _ _ _ _ _ _ _)
   | (with_reducible exact ih1 _ _ _ _ _ _ _ _ _ _ _ _ _ _ _ _ _ _ _ _)
   | (with_reducible exact ih2 _ _ _ _ _ _ _ _ _ _ _ _ _)
   | (with_reducible exact ih3 _ _ _ _ _ _ _ _ _ _ _ _ _)
   | (with_reducible exact ih4 _ _ _ _ _ _ _)
   | (with_reducible exact ih5 _ _ _ _ _ _)
   | (with_reducible exact ih6 _ _ _ _ _ _ _ _ _ _ _ _ _ _ _ _ _ _ _ _ _ _ _ _)
   | (with_reducible exact impl_EighthsFor.mono _ _ _ _ _)
   | (with_reducible exact impl_PiecesOn.mono _ _ _ _ _)
   | (with_reducible exact impl_SpeedRatio.mono _ _ _ _ _)
   | (with_reducible exact impl_TurnsFor.mono _ _ _ _ _)
   | (with_reducible exact spec_DrawEighthsFor.mono _ _)
   | (with_reducible exact spec_DrawPiecesOn.mono _ _)
   | (with_reducible exact spec_EighthsFor.mono _ _ _ _ _)
   | (with_reducible exact spec_PiecesOn.mono _ _ _ _ _)
   | (with_reducible exact spec_TurnsFor.mono _ _ _ _ _)
   | (with_reducible exact LeO.refl _)
   | (with_reducible exact LeO.none _)
   | (with_reducible refine LeO.ite ?_ ?_)
   | (with_reducible refine LeO.bind ?_ (fun _ => ?_))
   | exact ih0 _ _ _ _ _ _ _ _ _ _ _ _ _ _ _ _ _ _ _ _ _ _ _ _ _ _ _
   | exact ih1 _ _ _ _ _ _ _ _ _ _ _ _ _ _ _ _ _ _ _ _
   | exact ih2 _ _ _ _ _ _ _ _ _ _ _ _ _
   | exact ih3 _ _ _ _ _ _ _ _ _ _ _ _ _
   | exact ih4 _ _ _ _ _ _ _
   | exact ih5 _ _ _ _ _ _
   | exact ih6 _ _ _ _ _ _ _ _ _ _ _ _ _ _ _ _ _ _ _ _ _ _ _ _
   | exact impl_EighthsFor.mono _ _ _ _ _
   | exact impl_PiecesOn.mono _ _ _ _ _
   | exact impl_SpeedRatio.mono _ _ _ _ _
   | exact impl_TurnsFor.mono _ _ _ _ _
   | exact spec_DrawEighthsFor.mono _ _
   | exact spec_DrawPiecesOn.mono _ _
   | exact spec_EighthsFor.mono _ _ _ _ _
   | exact spec_PiecesOn.mono _ _ _ _ _
   | exact spec_TurnsFor.mono _ _ _ _ _
   | exact LeO.none _
   | refine LeO.ite ?_ ?_
   | refine LeO.bind ?_ (fun _ => ?_)
theorem laws_FnSpools.mono : ∀ a0 a1 k, LeO (laws_FnSpools.f k a0 a1) (laws_FnSpools.f (k + 1) a0 a1) := by
 intro a0 a1 k
 obtain ⟨ih0, ih1, ih2, ih3, ih4, ih5, ih6⟩ := laws_FnSpools.mono_l k
 unfold laws_FnSpools.f
 repeat' first
   | (with_reducible exact ih0 _ _ _ _ _ _ _ _ _ _ _ _ _ _ _ _ _ _ _ _ _ _ _ _ _ _ _)
   | (with_reducible exact ih1 _ _ _ _ _ _ _ _ _ _ _ _ _ _ _ _ _ _ _ _)
   | (with_reducible exact ih2 _ _ _ _ _ _ _ _ _ _ _ _ _)
   | (with_reducible exact ih3 _ _ _ _ _ _ _ _ _ _ _ _ _)
   | (with_reducible exact ih4 _ _ _ _ _ _ _)
   | (with_reducible exact ih5 _ _ _ _ _ _)
   | (with_reducible exact ih6 _ _ _ _ _ _ _ _ _ _ _ _ _ _ _ _ _ _ _ _ _ _ _ _)
   | (with_reducible exact impl_EighthsFor.mono _ _ _ _ _)
   | (with_reducible exact impl_PiecesOn.mono _ _ _ _ _)
   | (with_reducible exact impl_SpeedRatio.mono _ _ _ _ _)
   | (with_reducible exact impl_TurnsFor.mono _ _ _ _ _)
   | (with_reducible exact spec_DrawEighthsFor.mono _ _)
   | (with_reducible exact spec_DrawPiecesOn.mono _ _)
   | (with_reducible exact spec_EighthsFor.mono _ _ _ _ _)
   | (with_reducible exact spec_PiecesOn.mono _ _ _ _ _)
   | (with_reducible exact spec_TurnsFor.mono _ _ _ _ _)
   | (with_reducible exact LeO.refl _)
   | (with_reducible exact LeO.none _)
   | (with_reducible refine LeO.ite ?_ ?_)
   | (with_reducible refine LeO.bind ?_ (fun _ => ?_))
   | exact ih0 _ _ _ _ _ _ _ _ _ _ _ _ _ _ _ _ _ _ _ _ _ _ _ _ _ _ _
   | exact ih1 _ _ _ _ _ _ _ _ _ _ _ _ _ _ _ _ _ _ _ _
   | exact ih2 _ _ _ _ _ _ _ _ _ _ _ _ _
   | exact ih3 _ _ _ _ _ _ _ _ _ _ _ _ _
   | exact ih4 _ _ _ _ _ _ _
   | exact ih5 _ _ _ _ _ _
   | exact ih6 _ _ _ _ _ _ _ _ _ _ _ _ _ _ _ _ _ _ _ _ _ _ _ _
   | exact impl_EighthsFor.mono _ _ _ _ _
   | exact impl_PiecesOn.mono _ _ _ _ _
   | exact impl_SpeedRatio.mono _ _ _ _ _
   | exact impl_TurnsFor.mono _ _ _ _ _
   | exact spec_DrawEighthsFor.mono _ _
   | exact spec_DrawPiecesOn.mono _ _
   | exact spec_EighthsFor.mono _ _ _ _ _
   | exact spec_PiecesOn.mono _ _ _ _ _
   | exact spec_TurnsFor.mono _ _ _ _ _
   | exact LeO.none _
   | refine LeO.ite ?_ ?_
   | refine LeO.bind ?_ (fun _ => ?_)
set_option maxHeartbeats 8000000 in
set_option maxRecDepth 100000 in
theorem laws_FnSpools.calls (k : Nat) (A0 : Option Addr) (c0 : Nat) (l0 : List Int) (A1 : Option Addr) (c1 : Nat) (l1 : List Int) (r : Bool) (w : World) (hr0 : Kd.C (Kd.int .u8) w A0 l0.length l0) (hc0 : l0.length ≤ c0) (hr1 : Kd.C (Kd.int .u8) w A1 l1.length l1) (hc1 : l1.length ≤ c1) (h : laws_FnSpools.f k l0 l1 = some r) :
  Calls Try.prog 10 #[.slice A0 l0.length c0, .slice A1 l1.length c1] w fun e w' => e = .returned (.bool r) ∧ Below w.heap.size w w' := by
 have hu64 := Try.underlying64
 have HR0 := Aside0.mk hr0
 have HC0 := Aside0.mk hc0
 clear hr0 hc0
 have HR1 := Aside0.mk hr1
 have HC1 := Aside0.mk hc1
 clear hr1 hc1
 have HB := Aside0.mk (Below.refl w.heap.size w)
 have H : (if (wrap64 ((l0.length : Int) + (l1.length : Int))) > 1048576 then (some true) else ((spec_DrawEighthsFor.f k l0).bind fun bt390 => ((impl_EighthsFor.f k bt390.1 bt390.2.1 bt390.2.2.1 bt390.2.2.2).bind fun bt395 => ((spec_EighthsFor.f k bt390.1 bt390.2.1 bt390.2.2.1 bt390.2.2.2).bind fun bt397 => ((impl_TurnsFor.f k bt390.1 bt390.2.1 bt390.2.2.1 bt390.2.2.2).bind fun bt399 => ((spec_TurnsFor.f k bt390.1 bt390.2.1 bt390.2.2.1 bt390.2.2.2).bind fun bt401 => ((spec_DrawPiecesOn.f k l1).bind fun bt403 => ((impl_PiecesOn.f k bt403.1 bt403.2.1 bt403.2.2.1 bt403.2.2.2).bind fun bt410 => ((spec_PiecesOn.f k bt403.1 bt403.2.1 bt403.2.2.1 bt403.2.2.2).bind fun bt413 => ((spec_DrawTurnLength.f l1).bind fun bt416 => ((impl_TurnLength.f bt416.1 bt416.2.1 bt416.2.2.1 bt416.2.2.2).bind fun bt421 => ((spec_TurnLength.f bt416.1 bt416.2.1 bt416.2.2.1 bt416.2.2.2).bind fun bt423 => ((spec_DrawLengthWound.f l1).bind fun bt425 => ((impl_LengthWound.f bt425.1 bt425.2.1 bt425.2.2.1 bt425.2.2.2).bind fun bt430 => ((spec_LengthWound.f bt425.1 bt425.2.1 bt425.2.2.1 bt425.2.2.2).bind fun bt432 => (if (bt395.2 != bt397.2) = true then (laws_FnSpools.j0 k bt390.2.2.2 bt395.2 bt397.1 bt401.1 bt403.2.2.2 bt410.2.2 bt413.1 bt413.2.1 bt416.2.2.2 bt421.2 bt423.1 bt425.2.2.2 bt430.2 bt432.1 true bt390.1 bt390.2.1 bt390.2.2.1 bt403.1 bt403.2.1 bt403.2.2.1 bt416.1 bt416.2.1 bt416.2.2.1 bt425.1 bt425.2.1 bt425.2.2.1) else (if bt395.1 = bt397.1 then (if (bt399.2 != bt401.2) = true then (laws_FnSpools.j0 k bt390.2.2.2 bt395.2 bt397.1 bt401.1 bt403.2.2.2 bt410.2.2 bt413.1 bt413.2.1 bt416.2.2.2 bt421.2 bt423.1 bt425.2.2.2 bt430.2 bt432.1 true bt390.1 bt390.2.1 bt390.2.2.1 bt403.1 bt403.2.1 bt403.2.2.1 bt416.1 bt416.2.1 bt416.2.2.1 bt425.1 bt425.2.1 bt425.2.2.1) else (if bt399.1 = bt401.1 then (if (bt410.2.2 != bt413.2.2) = true then (laws_FnSpools.j0 k bt390.2.2.2 bt395.2 bt397.1 bt401.1 bt403.2.2.2 bt410.2.2 bt413.1 bt413.2.1 bt416.2.2.2 bt421.2 bt423.1 bt425.2.2.2 bt430.2 bt432.1 true bt390.1 bt390.2.1 bt390.2.2.1 bt403.1 bt403.2.1 bt403.2.2.1 bt416.1 bt416.2.1 bt416.2.2.1 bt425.1 bt425.2.1 bt425.2.2.1) else (if bt410.1 = bt413.1 then (if bt410.2.1 = bt413.2.1 then (if (bt421.2 != bt423.2) = true then (laws_FnSpools.j0 k bt390.2.2.2 bt395.2 bt397.1 bt401.1 bt403.2.2.2 bt410.2.2 bt413.1 bt413.2.1 bt416.2.2.2 bt421.2 bt423.1 bt425.2.2.2 bt430.2 bt432.1 true bt390.1 bt390.2.1 bt390.2.2.1 bt403.1 bt403.2.1 bt403.2.2.1 bt416.1 bt416.2.1 bt416.2.2.1 bt425.1 bt425.2.1 bt425.2.2.1) else (if bt421.1 = bt423.1 then (if (bt430.2 != bt432.2) = true then (laws_FnSpools.j0 k bt390.2.2.2 bt395.2 bt397.1 bt401.1 bt403.2.2.2 bt410.2.2 bt413.1 bt413.2.1 bt416.2.2.2 bt421.2 bt423.1 bt425.2.2.2 bt430.2 bt432.1 true bt390.1 bt390.2.1 bt390.2.2.1 bt403.1 bt403.2.1 bt403.2.2.1 bt416.1 bt416.2.1 bt416.2.2.1 bt425.1 bt425.2.1 bt425.2.2.1) else (if bt430.1 = bt432.1 then (laws_FnSpools.j0 k bt390.2.2.2 bt395.2 bt397.1 bt401.1 bt403.2.2.2 bt410.2.2 bt413.1 bt413.2.1 bt416.2.2.2 bt421.2 bt423.1 bt425.2.2.2 bt430.2 bt432.1 (bt399.2 != bt395.2) bt390.1 bt390.2.1 bt390.2.2.1 bt403.1 bt403.2.1 bt403.2.2.1 bt416.1 bt416.2.1 bt416.2.2.1 bt425.1 bt425.2.1 bt425.2.2.1) else (laws_FnSpools.j0 k bt390.2.2.2 bt395.2 bt397.1 bt401.1 bt403.2.2.2 bt410.2.2 bt413.1 bt413.2.1 bt416.2.2.2 bt421.2 bt423.1 bt425.2.2.2 bt430.2 bt432.1 true bt390.1 bt390.2.1 bt390.2.2.1 bt403.1 bt403.2.1 bt403.2.2.1 bt416.1 bt416.2.1 bt416.2.2.1 bt425.1 bt425.2.1 bt425.2.2.1))) else (laws_FnSpools.j0 k bt390.2.2.2 bt395.2 bt397.1 bt401.1 bt403.2.2.2 bt410.2.2 bt413.1 bt413.2.1 bt416.2.2.2 bt421.2 bt423.1 bt425.2.2.2 bt430.2 bt432.1 true bt390.1 bt390.2.1 bt390.2.2.1 bt403.1 bt403.2.1 bt403.2.2.1 bt416.1 bt416.2.1 bt416.2.2.1 bt425.1 bt425.2.1 bt425.2.2.1))) else (laws_FnSpools.j0 k bt390.2.2.2 bt395.2 bt397.1 bt401.1 bt403.2.2.2 bt410.2.2 bt413.1 bt413.2.1 bt416.2.2.2 bt421.2 bt423.1 bt425.2.2.2 bt430.2 bt432.1 true bt390.1 bt390.2.1 bt390.2.2.1 bt403.1 bt403.2.1 bt403.2.2.1 bt416.1 bt416.2.1 bt416.2.2.1 bt425.1 bt425.2.1 bt425.2.2.1)) else (laws_FnSpools.j0 k bt390.2.2.2 bt395.2 bt397.1 bt401.1 bt403.2.2.2 bt410.2.2 bt413.1 bt413.2.1 bt416.2.2.2 bt421.2 bt423.1 bt425.2.2.2 bt430.2 bt432.1 true bt390.1 bt390.2.1 bt390.2.2.1 bt403.1 bt403.2.1 bt403.2.2.1 bt416.1 bt416.2.1 bt416.2.2.1 bt425.1 bt425.2.1 bt425.2.2.1))) else (laws_FnSpools.j0 k bt390.2.2.2 bt395.2 bt397.1 bt401.1 bt403.2.2.2 bt410.2.2 bt413.1 bt413.2.1 bt416.2.2.2 bt421.2 bt423.1 bt425.2.2.2 bt430.2 bt432.1 true bt390.1 bt390.2.1 bt390.2.2.1 bt403.1 bt403.2.1 bt403.2.2.1 bt416.1 bt416.2.1 bt416.2.2.1 bt425.1 bt425.2.1 bt425.2.2.1))) else (laws_FnSpools.j0 k bt390.2.2.2 bt395.2 bt397.1 bt401.1 bt403.2.2.2 bt410.2.2 bt413.1 bt413.2.1 bt416.2.2.2 bt421.2 bt423.1 bt425.2.2.2 bt430.2 bt432.1 true bt390.1 bt390.2.1 bt390.2.2.1 bt403.1 bt403.2.1 bt403.2.2.1 bt416.1 bt416.2.1 bt416.2.2.1 bt425.1 bt425.2.1 bt425.2.2.1)))))))))))))))))) = some r := h
 clear h
 by_cases c3 : (wrap64 ((l0.length : Int) + (l1.length : Int))) > 1048576
 ·rw [if_pos c3] at H
  have c3b0 : decide (1048576 < (wrap64 ((l0.length : Int) + (l1.length : Int)))) = true := decide_eq_true c3
  clear c3
  obtain rfl := Option.some.inj H
  go_enter Try.func10, Try.ntmps10
  as_aux_lemma =>
   go_wp2
   go_ret
   exact ⟨by first | rfl | (simp [errW_none, errW_some] <;> rfl) | (simp [*, errW_none, errW_some] <;> rfl), by repeat (first | (with_reducible first | exact HB.out | apply below_alloc | apply pw_below_drewN | apply below_drew1) | exact HB.out)⟩
 ·rw [if_neg c3] at H
  have c3b0 : decide (1048576 < (wrap64 ((l0.length : Int) + (l1.length : Int)))) = false := decide_eq_false c3
  clear c3
  replace H := Option.bind_eq_some_iff.mp H
  obtain ⟨⟨t390, t391, t392, t393⟩, A40, H⟩ := H
  (try dsimp only at H)
  have A4 := Aside0.mk A40
  clear A40
  replace H := Option.bind_eq_some_iff.mp H
  obtain ⟨⟨t395, t396⟩, A50, H⟩ := H
  (try dsimp only at H)
  have A5 := Aside0.mk A50
  clear A50
  replace H := Option.bind_eq_some_iff.mp H
  obtain ⟨⟨t397, t398⟩, A60, H⟩ := H
  (try dsimp only at H)
  have A6 := Aside0.mk A60
  clear A60
  replace H := Option.bind_eq_some_iff.mp H
  obtain ⟨⟨t399, t400⟩, A70, H⟩ := H
  (try dsimp only at H)
  have A7 := Aside0.mk A70
  clear A70
  replace H := Option.bind_eq_some_iff.mp H
  obtain ⟨⟨t401, t402⟩, A80, H⟩ := H
  (try dsimp only at H)
  have A8 := Aside0.mk A80
  clear A80
  replace H := Option.bind_eq_some_iff.mp H
  obtain ⟨⟨t403, t404, t405, t406⟩, A90, H⟩ := H
  (try dsimp only at H)
  have A9 := Aside0.mk A90
  clear A90
  replace H := Option.bind_eq_some_iff.mp H
  obtain ⟨⟨t410, t411, t412⟩, A100, H⟩ := H
  (try dsimp only at H)
  have A10 := Aside0.mk A100
  clear A100
  replace H := Option.bind_eq_some_iff.mp H
  obtain ⟨⟨t413, t414, t415⟩, A110, H⟩ := H
  (try dsimp only at H)
  have A11 := Aside0.mk A110
  clear A110
  replace H := Option.bind_eq_some_iff.mp H
  obtain ⟨⟨t416, t417, t418, t419⟩, A120, H⟩ := H
  (try dsimp only at H)
  have A12 := Aside0.mk A120
  clear A120
  replace H := Option.bind_eq_some_iff.mp H
  obtain ⟨⟨t421, t422⟩, A130, H⟩ := H
  (try dsimp only at H)
  have A13 := Aside0.mk A130
  clear A130
  replace H := Option.bind_eq_some_iff.mp H
  obtain ⟨⟨t423, t424⟩, A140, H⟩ := H
  (try dsimp only at H)
  have A14 := Aside0.mk A140
  clear A140
  replace H := Option.bind_eq_some_iff.mp H
  obtain ⟨⟨t425, t426, t427, t428⟩, A150, H⟩ := H
  (try dsimp only at H)
  have A15 := Aside0.mk A150
  clear A150
  replace H := Option.bind_eq_some_iff.mp H
  obtain ⟨⟨t430, t431⟩, A160, H⟩ := H
  (try dsimp only at H)
  have A16 := Aside0.mk A160
  clear A160
  replace H := Option.bind_eq_some_iff.mp H
  obtain ⟨⟨t432, t433⟩, A170, H⟩ := H
  (try dsimp only at H)
  have A17 := Aside0.mk A170
  clear A170
  have HC18 := Aside0.mk H
  clear H
  go_enter Try.func10, Try.ntmps10
  go_upto_region 17 with (first | ((with_reducible refine gate_callee (f := 48) rfl ?_); refine goesL_ (some 65) rfl rfl Try.func48 (by kernel_rfl) rfl #[.slice A0 l0.length c0] rfl (by (try simp only [List.map_toArray, List.map_cons, List.map_nil]); first | done | rfl | (simp only [List.length_drop, List.length_take]; rfl)) ?_; (with_reducible refine (spec_DrawEighthsFor.calls k _ _ l0 t390 t391 t392 t393 _ ?side1 ?side2 A4.out).mono ?_); (case side1 => repeat (first | exact HR0.out | (with_reducible refine Kd.C_alloc ?_ _) | (with_reducible refine Kd.C_drewN ?_ _) | (with_reducible refine Kd.C_drew ?_))); (case side2 => exact HC0.out); rintro e w19 ⟨rfl, hb⟩; refine ⟨_, rfl, ?_⟩; have n0_ := Aside0.mk (below_step (by repeat (first | (with_reducible first | exact HB.out | apply below_alloc | apply pw_below_drewN | apply below_drew1) | exact HB.out)) hb); clear HB; have HB := n0_; clear n0_; (try clear hb); (try clear hb2); (try clear hk); (try clear hi)) | ((with_reducible refine gate_dst (N := 5) rfl ?_); (try (refine gate_guard (by rfl) ?_; dsimp only)); refine box_event ?hg (N := 5) ?hd (cs := #[.int .i64 0, .int .i64 0, .int .i64 0]) (t := 64) ?hr ?_; (case hd => rfl); (case hg => rfl); (case hr => first | (go_simp; done) | (go_simp; rfl)); intro gb394 hg w20 hbox hb; have n0_ := Aside0.mk (below_step (by repeat (first | (with_reducible first | exact HB.out | apply below_alloc | apply pw_below_drewN | apply below_drew1) | exact HB.out)) hb); have n1_ := Aside0.mk (hbox); have n2_ := Aside0.mk ((by rw [hg]; exact (below_size (by repeat (first | (with_reducible first | exact HB.out | apply below_alloc | apply pw_below_drewN | apply below_drew1) | exact HB.out))) : w.heap.size ≤ gb394)); have n3_ := Aside0.mk ((by rw [hg]; exact (below_size (by repeat (first | (with_reducible first | exact HB.out | apply below_alloc | apply pw_below_drewN | apply below_drew1) | exact HB.out))) : w.heap.size ≤ gb394)); clear HB; have HB := n0_; have BK394 := n1_; have GW394 := n2_; have GE394 := n3_; clear n0_ n1_ n2_ n3_; clear hb hbox hg; have hcz21_0 : w20.cell? ⟨gb394, 0, none⟩ = some (.int .i64 0) := (blk_cell BK394.out 0).trans rfl; have hcz21_1 : w20.cell? ⟨gb394, 1, none⟩ = some (.int .i64 0) := (blk_cell BK394.out 1).trans rfl; have hcz21_2 : w20.cell? ⟨gb394, 2, none⟩ = some (.int .i64 0) := (blk_cell BK394.out 2).trans rfl; have hfz21_0 := blk_frozen BK394.out 0; have hfz21_1 := blk_frozen BK394.out 1; have hfz21_2 := blk_frozen BK394.out 2) | ((with_reducible refine gate_callee (f := 49) rfl ?_); refine goesL_ (some 71) rfl rfl Try.func49 (by kernel_rfl) rfl #[.agg #[.int .i64 t390, .int .i64 t391, .int .i64 t392], .int .i64 t393] rfl (by (try simp only [List.map_toArray, List.map_cons, List.map_nil]); first | done | rfl | (simp only [List.length_drop, List.length_take]; rfl)) ?_; (with_reducible refine (impl_EighthsFor.calls k t390 t391 t392 t393 t395 t396 _ A5.out).mono ?_); rintro e w22 ⟨rfl, hb⟩; refine ⟨_, rfl, ?_⟩; have n0_ := Aside0.mk (blk_below (g := gb394) (o := .cells #[.int .i64 t390, .int .i64 t391, .int .i64 t392] 64 (0, 0)) (by (with_reducible repeat (first | refine blk_drewN ?_ _ | refine blk_drew ?_ | refine blk_alloc ?_ _)); refine blk_put (cs := #[.int .i64 t390, .int .i64 t391, .int .i64 0]) ?_ 2 _ rfl; (with_reducible repeat (first | refine blk_drewN ?_ _ | refine blk_drew ?_ | refine blk_alloc ?_ _)); refine blk_put (cs := #[.int .i64 t390, .int .i64 0, .int .i64 0]) ?_ 1 _ rfl; (with_reducible repeat (first | refine blk_drewN ?_ _ | refine blk_drew ?_ | refine blk_alloc ?_ _)); refine blk_put (cs := #[.int .i64 0, .int .i64 0, .int .i64 0]) ?_ 0 _ rfl; (with_reducible repeat (first | refine blk_drewN ?_ _ | refine blk_drew ?_ | refine blk_alloc ?_ _)); exact BK394.out) hb); have n1_ := Aside0.mk (below_step (by repeat (first | (with_reducible first | exact HB.out | apply below_alloc | apply pw_below_drewN | apply below_drew1 | refine below_set ?_ GE394.out) | exact HB.out)) hb); clear BK394; clear HB; have BK394 := n0_; have HB := n1_; clear n0_ n1_; (try clear hb); (try clear hb2); (try clear hk); (try clear hi); have hcz23_0 : w22.cell? ⟨gb394, 0, none⟩ = some (.int .i64 t390) := (blk_cell BK394.out 0).trans rfl; have hcz23_1 : w22.cell? ⟨gb394, 1, none⟩ = some (.int .i64 t391) := (blk_cell BK394.out 1).trans rfl; have hcz23_2 : w22.cell? ⟨gb394, 2, none⟩ = some (.int .i64 t392) := (blk_cell BK394.out 2).trans rfl; have hfz23_0 := blk_frozen BK394.out 0; have hfz23_1 := blk_frozen BK394.out 1; have hfz23_2 := blk_frozen BK394.out 2) | ((with_reducible refine gate_callee (f := 50) rfl ?_); refine goesL_ (some 77) rfl rfl Try.func50 (by kernel_rfl) rfl #[.agg #[.int .i64 t390, .int .i64 t391, .int .i64 t392], .int .i64 t393] rfl (by (try simp only [List.map_toArray, List.map_cons, List.map_nil]); first | done | rfl | (simp only [List.length_drop, List.length_take]; rfl)) ?_; (with_reducible refine (spec_EighthsFor.calls k t390 t391 t392 t393 t397 t398 _ A6.out).mono ?_); rintro e w24 ⟨rfl, hb⟩; refine ⟨_, rfl, ?_⟩; have n0_ := Aside0.mk (blk_below (g := gb394) (o := .cells #[.int .i64 t390, .int .i64 t391, .int .i64 t392] 64 (0, 0)) (by (with_reducible repeat (first | refine blk_drewN ?_ _ | refine blk_drew ?_ | refine blk_alloc ?_ _)); exact BK394.out) hb); have n1_ := Aside0.mk (below_step (by repeat (first | (with_reducible first | exact HB.out | apply below_alloc | apply pw_below_drewN | apply below_drew1 | refine below_set ?_ GE394.out) | exact HB.out)) hb); clear BK394; clear HB; have BK394 := n0_; have HB := n1_; clear n0_ n1_; (try clear hb); (try clear hb2); (try clear hk); (try clear hi); have hcz25_0 : w24.cell? ⟨gb394, 0, none⟩ = some (.int .i64 t390) := (blk_cell BK394.out 0).trans rfl; have hcz25_1 : w24.cell? ⟨gb394, 1, none⟩ = some (.int .i64 t391) := (blk_cell BK394.out 1).trans rfl; have hcz25_2 : w24.cell? ⟨gb394, 2, none⟩ = some (.int .i64 t392) := (blk_cell BK394.out 2).trans rfl; have hfz25_0 := blk_frozen BK394.out 0; have hfz25_1 := blk_frozen BK394.out 1; have hfz25_2 := blk_frozen BK394.out 2) | ((with_reducible refine gate_callee (f := 51) rfl ?_); refine goesL_ (some 83) rfl rfl Try.func51 (by kernel_rfl) rfl #[.agg #[.int .i64 t390, .int .i64 t391, .int .i64 t392], .int .i64 t393] rfl (by (try simp only [List.map_toArray, List.map_cons, List.map_nil]); first | done | rfl | (simp only [List.length_drop, List.length_take]; rfl)) ?_; (with_reducible refine (impl_TurnsFor.calls k t390 t391 t392 t393 t399 t400 _ A7.out).mono ?_); rintro e w26 ⟨rfl, hb⟩; refine ⟨_, rfl, ?_⟩; have n0_ := Aside0.mk (blk_below (g := gb394) (o := .cells #[.int .i64 t390, .int .i64 t391, .int .i64 t392] 64 (0, 0)) (by (with_reducible repeat (first | refine blk_drewN ?_ _ | refine blk_drew ?_ | refine blk_alloc ?_ _)); exact BK394.out) hb); have n1_ := Aside0.mk (below_step (by repeat (first | (with_reducible first | exact HB.out | apply below_alloc | apply pw_below_drewN | apply below_drew1 | refine below_set ?_ GE394.out) | exact HB.out)) hb); clear BK394; clear HB; have BK394 := n0_; have HB := n1_; clear n0_ n1_; (try clear hb); (try clear hb2); (try clear hk); (try clear hi); have hcz27_0 : w26.cell? ⟨gb394, 0, none⟩ = some (.int .i64 t390) := (blk_cell BK394.out 0).trans rfl; have hcz27_1 : w26.cell? ⟨gb394, 1, none⟩ = some (.int .i64 t391) := (blk_cell BK394.out 1).trans rfl; have hcz27_2 : w26.cell? ⟨gb394, 2, none⟩ = some (.int .i64 t392) := (blk_cell BK394.out 2).trans rfl; have hfz27_0 := blk_frozen BK394.out 0; have hfz27_1 := blk_frozen BK394.out 1; have hfz27_2 := blk_frozen BK394.out 2) | ((with_reducible refine gate_callee (f := 52) rfl ?_); refine goesL_ (some 89) rfl rfl Try.func52 (by kernel_rfl) rfl #[.agg #[.int .i64 t390, .int .i64 t391, .int .i64 t392], .int .i64 t393] rfl (by (try simp only [List.map_toArray, List.map_cons, List.map_nil]); first | done | rfl | (simp only [List.length_drop, List.length_take]; rfl)) ?_; (with_reducible refine (spec_TurnsFor.calls k t390 t391 t392 t393 t401 t402 _ A8.out).mono ?_); rintro e w28 ⟨rfl, hb⟩; refine ⟨_, rfl, ?_⟩; have n0_ := Aside0.mk (blk_below (g := gb394) (o := .cells #[.int .i64 t390, .int .i64 t391, .int .i64 t392] 64 (0, 0)) (by (with_reducible repeat (first | refine blk_drewN ?_ _ | refine blk_drew ?_ | refine blk_alloc ?_ _)); exact BK394.out) hb); have n1_ := Aside0.mk (below_step (by repeat (first | (with_reducible first | exact HB.out | apply below_alloc | apply pw_below_drewN | apply below_drew1 | refine below_set ?_ GE394.out) | exact HB.out)) hb); clear BK394; clear HB; have BK394 := n0_; have HB := n1_; clear n0_ n1_; (try clear hb); (try clear hb2); (try clear hk); (try clear hi)) | ((with_reducible refine gate_callee (f := 53) rfl ?_); refine goesL_ (some 94) rfl rfl Try.func53 (by kernel_rfl) rfl #[.slice A1 l1.length c1] rfl (by (try simp only [List.map_toArray, List.map_cons, List.map_nil]); first | done | rfl | (simp only [List.length_drop, List.length_take]; rfl)) ?_; (with_reducible refine (spec_DrawPiecesOn.calls k _ _ l1 t403 t404 t405 t406 _ ?side1 ?side2 A9.out).mono ?_); (case side1 => repeat (first | exact (Kd.C_below HR1.out HB.out) | (with_reducible refine Kd.C_alloc ?_ _) | (with_reducible refine Kd.C_drewN ?_ _) | (with_reducible refine Kd.C_drew ?_))); (case side2 => exact HC1.out); rintro e w29 ⟨v407, rfl, ho0, hb⟩; refine ⟨_, rfl, ?_⟩; have n0_ := Aside0.mk (Kd.R_lower ho0 (below_size (by repeat (first | (with_reducible first | exact HB.out | apply below_alloc | apply pw_below_drewN | apply below_drew1 | refine below_set ?_ GE394.out) | exact HB.out)))); have n1_ := Aside0.mk (blk_below (g := gb394) (o := .cells #[.int .i64 t390, .int .i64 t391, .int .i64 t392] 64 (0, 0)) (by (with_reducible repeat (first | refine blk_drewN ?_ _ | refine blk_drew ?_ | refine blk_alloc ?_ _)); exact BK394.out) hb); have n2_ := Aside0.mk (below_step (by repeat (first | (with_reducible first | exact HB.out | apply below_alloc | apply pw_below_drewN | apply below_drew1 | refine below_set ?_ GE394.out) | exact HB.out)) hb); clear BK394; clear HB; have HO408 := n0_; have BK394 := n1_; have HB := n2_; clear n0_ n1_ n2_; (try clear hb); (try clear hb2); (try clear hk); (try clear hi); (try clear ho0)) | ((with_reducible refine gate_dst (N := 15) rfl ?_); (try (refine gate_guard (by rfl) ?_; dsimp only)); refine box_event ?hg (N := 15) ?hd (cs := #[.int .i64 0, .int .i64 0, .int .i64 0]) (t := 64) ?hr ?_; (case hd => rfl); (case hg => rfl); (case hr => first | (go_simp; done) | (go_simp; rfl)); intro gb409 hg w30 hbox hb; have n0_ := Aside0.mk (Kd.R_below (by (with_reducible repeat (first | apply Kd.R_alloc | apply Kd.R_drewN | apply Kd.R_drew)); exact HO408.out) hb); have n1_ := Aside0.mk (blk_below (g := gb394) (o := .cells #[.int .i64 t390, .int .i64 t391, .int .i64 t392] 64 (0, 0)) (by (with_reducible repeat (first | refine blk_drewN ?_ _ | refine blk_drew ?_ | refine blk_alloc ?_ _)); exact BK394.out) hb); have n2_ := Aside0.mk (below_step (by repeat (first | (with_reducible first | exact HB.out | apply below_alloc | apply pw_below_drewN | apply below_drew1 | refine below_set ?_ GE394.out) | exact HB.out)) hb); have n3_ := Aside0.mk (hbox); have n4_ := Aside0.mk ((by rw [hg]; exact (below_size (by repeat (first | (with_reducible first | exact HB.out | apply below_alloc | apply pw_below_drewN | apply below_drew1 | refine below_set ?_ GE394.out) | exact HB.out))) : w.heap.size ≤ gb409)); have n5_ := Aside0.mk ((by rw [hg]; exact (below_size (by repeat (first | (with_reducible first | exact HB.out | apply below_alloc | apply pw_below_drewN | apply below_drew1 | refine below_set ?_ GE394.out) | exact HB.out))) : w.heap.size ≤ gb409)); have n6_ := Aside0.mk ((by rw [hg]; exact Nat.ne_of_lt (blk_lt (g := gb394) (o := .cells #[.int .i64 t390, .int .i64 t391, .int .i64 t392] 64 (0, 0)) (by (with_reducible repeat (first | refine blk_drewN ?_ _ | refine blk_drew ?_ | refine blk_alloc ?_ _)); exact BK394.out)) : gb394 ≠ gb409)); have n7_ := Aside0.mk ((by rw [hg]; exact Nat.ne_of_gt (blk_lt (g := gb394) (o := .cells #[.int .i64 t390, .int .i64 t391, .int .i64 t392] 64 (0, 0)) (by (with_reducible repeat (first | refine blk_drewN ?_ _ | refine blk_drew ?_ | refine blk_alloc ?_ _)); exact BK394.out)) : gb409 ≠ gb394)); clear HO408; clear BK394; clear HB; have HO408 := n0_; have BK394 := n1_; have HB := n2_; have BK409 := n3_; have GW409 := n4_; have GE409 := n5_; have NB394_409 := n6_; have NB409_394 := n7_; clear n0_ n1_ n2_ n3_ n4_ n5_ n6_ n7_; clear hb hbox hg; have hnb31 := NB409_394.out; have hnc31 := NB394_409.out; have hcz32_0 : w30.cell? ⟨gb409, 0, none⟩ = some (.int .i64 0) := (blk_cell BK409.out 0).trans rfl; have hcz32_1 : w30.cell? ⟨gb409, 1, none⟩ = some (.int .i64 0) := (blk_cell BK409.out 1).trans rfl; have hcz32_2 : w30.cell? ⟨gb409, 2, none⟩ = some (.int .i64 0) := (blk_cell BK409.out 2).trans rfl; have hfz32_0 := blk_frozen BK409.out 0; have hfz32_1 := blk_frozen BK409.out 1; have hfz32_2 := blk_frozen BK409.out 2; obtain ⟨Ao33, co33, eo33⟩ := Kd.R_slice HO408.out; subst eo33) | ((with_reducible refine gate_callee (f := 54) rfl ?_); refine goesL_ (some 100) rfl rfl Try.func54 (by kernel_rfl) rfl #[.agg #[.int .i64 t403, .int .i64 t404, .int .i64 t405], .slice Ao33 t406.length co33] rfl (by (try simp only [List.map_toArray, List.map_cons, List.map_nil]); first | done | rfl | (simp only [List.length_drop, List.length_take]; rfl)) ?_; (with_reducible refine (impl_PiecesOn.calls k t403 t404 t405 _ _ t406 t410 t411 t412 _ ?side1 ?side2 A10.out).mono ?_); (case side1 => refine (Kd.R_reads' (e := 3) (base := w.heap.size) (ok := fun k_ => True) (n := t406.length) (c := co33) ?_).2.2; exact (by (with_reducible repeat (first | apply Kd.R_alloc | apply Kd.R_drewN | apply Kd.R_drew)); exact (Kd.R_mono (Kd.R_far (p := ⟨gb409, 2, none⟩) (Kd.R_far (p := ⟨gb409, 1, none⟩) (Kd.R_far (p := ⟨gb409, 0, none⟩) (Kd.R_types HO408.out BK409.out (by decide)) (fun _ hk => hk.2) (.int .i64 t403)) (fun _ hk => hk.2) (.int .i64 t404)) (fun _ hk => hk.2) (.int .i64 t405)) (fun _ h_ => h_.1)))); (case side2 => exact (Kd.R_reads' HO408.out).2.1); rintro e w34 ⟨rfl, hb⟩; refine ⟨_, rfl, ?_⟩; have n0_ := Aside0.mk (Kd.R_below (by (with_reducible repeat (first | apply Kd.R_alloc | apply Kd.R_drewN | apply Kd.R_drew)); exact (Kd.R_mono (Kd.R_far (p := ⟨gb409, 2, none⟩) (Kd.R_far (p := ⟨gb409, 1, none⟩) (Kd.R_far (p := ⟨gb409, 0, none⟩) (Kd.R_types HO408.out BK409.out (by decide)) (fun _ hk => hk.2) (.int .i64 t403)) (fun _ hk => hk.2) (.int .i64 t404)) (fun _ hk => hk.2) (.int .i64 t405)) (fun _ h_ => h_.1))) hb); have n1_ := Aside0.mk (blk_below (g := gb394) (o := .cells #[.int .i64 t390, .int .i64 t391, .int .i64 t392] 64 (0, 0)) (by (with_reducible repeat (first | refine blk_drewN ?_ _ | refine blk_drew ?_ | refine blk_alloc ?_ _)); refine blk_far ?_ NB394_409.out _; (with_reducible repeat (first | refine blk_drewN ?_ _ | refine blk_drew ?_ | refine blk_alloc ?_ _)); refine blk_far ?_ NB394_409.out _; (with_reducible repeat (first | refine blk_drewN ?_ _ | refine blk_drew ?_ | refine blk_alloc ?_ _)); refine blk_far ?_ NB394_409.out _; (with_reducible repeat (first | refine blk_drewN ?_ _ | refine blk_drew ?_ | refine blk_alloc ?_ _)); exact BK394.out) hb); have n2_ := Aside0.mk (blk_below (g := gb409) (o := .cells #[.int .i64 t403, .int .i64 t404, .int .i64 t405] 64 (0, 0)) (by (with_reducible repeat (first | refine blk_drewN ?_ _ | refine blk_drew ?_ | refine blk_alloc ?_ _)); refine blk_put (cs := #[.int .i64 t403, .int .i64 t404, .int .i64 0]) ?_ 2 _ rfl; (with_reducible repeat (first | refine blk_drewN ?_ _ | refine blk_drew ?_ | refine blk_alloc ?_ _)); refine blk_put (cs := #[.int .i64 t403, .int .i64 0, .int .i64 0]) ?_ 1 _ rfl; (with_reducible repeat (first | refine blk_drewN ?_ _ | refine blk_drew ?_ | refine blk_alloc ?_ _)); refine blk_put (cs := #[.int .i64 0, .int .i64 0, .int .i64 0]) ?_ 0 _ rfl; (with_reducible repeat (first | refine blk_drewN ?_ _ | refine blk_drew ?_ | refine blk_alloc ?_ _)); exact BK409.out) hb); have n3_ := Aside0.mk (below_step (by repeat (first | (with_reducible first | exact HB.out | apply below_alloc | apply pw_below_drewN | apply below_drew1 | refine below_set ?_ GE394.out | refine below_set ?_ GE409.out) | exact HB.out)) hb); clear HO408; clear BK394; clear BK409; clear HB; have HO408 := n0_; have BK394 := n1_; have BK409 := n2_; have HB := n3_; clear n0_ n1_ n2_ n3_; (try clear hb); (try clear hb2); (try clear hk); (try clear hi); have hcz35_0 : w34.cell? ⟨gb409, 0, none⟩ = some (.int .i64 t403) := (blk_cell BK409.out 0).trans rfl; have hcz35_1 : w34.cell? ⟨gb409, 1, none⟩ = some (.int .i64 t404) := (blk_cell BK409.out 1).trans rfl; have hcz35_2 : w34.cell? ⟨gb409, 2, none⟩ = some (.int .i64 t405) := (blk_cell BK409.out 2).trans rfl; have hfz35_0 := blk_frozen BK409.out 0; have hfz35_1 := blk_frozen BK409.out 1; have hfz35_2 := blk_frozen BK409.out 2) | ((with_reducible refine gate_callee (f := 55) rfl ?_); refine goesL_ (some 107) rfl rfl Try.func55 (by kernel_rfl) rfl #[.agg #[.int .i64 t403, .int .i64 t404, .int .i64 t405], .slice Ao33 t406.length co33] rfl (by (try simp only [List.map_toArray, List.map_cons, List.map_nil]); first | done | rfl | (simp only [List.length_drop, List.length_take]; rfl)) ?_; (with_reducible refine (spec_PiecesOn.calls k t403 t404 t405 _ _ t406 t413 t414 t415 _ ?side1 ?side2 A11.out).mono ?_); (case side1 => repeat (first | exact (Kd.R_reads' HO408.out).2.2 | (with_reducible refine Kd.C_alloc ?_ _) | (with_reducible refine Kd.C_drewN ?_ _) | (with_reducible refine Kd.C_drew ?_))); (case side2 => exact (Kd.R_reads' HO408.out).2.1); rintro e w36 ⟨rfl, hb⟩; refine ⟨_, rfl, ?_⟩; have n0_ := Aside0.mk (Kd.R_below (by (with_reducible repeat (first | apply Kd.R_alloc | apply Kd.R_drewN | apply Kd.R_drew)); exact HO408.out) hb); have n1_ := Aside0.mk (blk_below (g := gb394) (o := .cells #[.int .i64 t390, .int .i64 t391, .int .i64 t392] 64 (0, 0)) (by (with_reducible repeat (first | refine blk_drewN ?_ _ | refine blk_drew ?_ | refine blk_alloc ?_ _)); exact BK394.out) hb); have n2_ := Aside0.mk (blk_below (g := gb409) (o := .cells #[.int .i64 t403, .int .i64 t404, .int .i64 t405] 64 (0, 0)) (by (with_reducible repeat (first | refine blk_drewN ?_ _ | refine blk_drew ?_ | refine blk_alloc ?_ _)); exact BK409.out) hb); have n3_ := Aside0.mk (below_step (by repeat (first | (with_reducible first | exact HB.out | apply below_alloc | apply pw_below_drewN | apply below_drew1 | refine below_set ?_ GE394.out | refine below_set ?_ GE409.out) | exact HB.out)) hb); clear HO408; clear BK394; clear BK409; clear HB; have HO408 := n0_; have BK394 := n1_; have BK409 := n2_; have HB := n3_; clear n0_ n1_ n2_ n3_; (try clear hb); (try clear hb2); (try clear hk); (try clear hi)) | ((with_reducible refine gate_callee (f := 56) rfl ?_); refine goesL_ (some 113) rfl rfl Try.func56 (by kernel_rfl) rfl #[.slice A1 l1.length c1] rfl (by (try simp only [List.map_toArray, List.map_cons, List.map_nil]); first | done | rfl | (simp only [List.length_drop, List.length_take]; rfl)) ?_; (with_reducible refine (spec_DrawTurnLength.calls _ _ l1 t416 t417 t418 t419 _ ?side1 ?side2 A12.out).mono ?_); (case side1 => repeat (first | exact (Kd.C_below HR1.out HB.out) | (with_reducible refine Kd.C_alloc ?_ _) | (with_reducible refine Kd.C_drewN ?_ _) | (with_reducible refine Kd.C_drew ?_))); (case side2 => exact HC1.out); rintro e w37 ⟨rfl, hb⟩; refine ⟨_, rfl, ?_⟩; have n0_ := Aside0.mk (Kd.R_below (by (with_reducible repeat (first | apply Kd.R_alloc | apply Kd.R_drewN | apply Kd.R_drew)); exact HO408.out) hb); have n1_ := Aside0.mk (blk_below (g := gb394) (o := .cells #[.int .i64 t390, .int .i64 t391, .int .i64 t392] 64 (0, 0)) (by (with_reducible repeat (first | refine blk_drewN ?_ _ | refine blk_drew ?_ | refine blk_alloc ?_ _)); exact BK394.out) hb); have n2_ := Aside0.mk (blk_below (g := gb409) (o := .cells #[.int .i64 t403, .int .i64 t404, .int .i64 t405] 64 (0, 0)) (by (with_reducible repeat (first | refine blk_drewN ?_ _ | refine blk_drew ?_ | refine blk_alloc ?_ _)); exact BK409.out) hb); have n3_ := Aside0.mk (below_step (by repeat (first | (with_reducible first | exact HB.out | apply below_alloc | apply pw_below_drewN | apply below_drew1 | refine below_set ?_ GE394.out | refine below_set ?_ GE409.out) | exact HB.out)) hb); clear HO408; clear BK394; clear BK409; clear HB; have HO408 := n0_; have BK394 := n1_; have BK409 := n2_; have HB := n3_; clear n0_ n1_ n2_ n3_; (try clear hb); (try clear hb2); (try clear hk); (try clear hi)) | ((with_reducible refine gate_dst (N := 23) rfl ?_); (try (refine gate_guard (by rfl) ?_; dsimp only)); refine box_event ?hg (N := 23) ?hd (cs := #[.int .i64 0, .int .i64 0, .int .i64 0]) (t := 64) ?hr ?_; (case hd => rfl); (case hg => rfl); (case hr => first | (go_simp; done) | (go_simp; rfl)); intro gb420 hg w38 hbox hb; have n0_ := Aside0.mk (Kd.R_below (by (with_reducible repeat (first | apply Kd.R_alloc | apply Kd.R_drewN | apply Kd.R_drew)); exact HO408.out) hb); have n1_ := Aside0.mk (blk_below (g := gb394) (o := .cells #[.int .i64 t390, .int .i64 t391, .int .i64 t392] 64 (0, 0)) (by (with_reducible repeat (first | refine blk_drewN ?_ _ | refine blk_drew ?_ | refine blk_alloc ?_ _)); exact BK394.out) hb); have n2_ := Aside0.mk (blk_below (g := gb409) (o := .cells #[.int .i64 t403, .int .i64 t404, .int .i64 t405] 64 (0, 0)) (by (with_reducible repeat (first | refine blk_drewN ?_ _ | refine blk_drew ?_ | refine blk_alloc ?_ _)); exact BK409.out) hb); have n3_ := Aside0.mk (below_step (by repeat (first | (with_reducible first | exact HB.out | apply below_alloc | apply pw_below_drewN | apply below_drew1 | refine below_set ?_ GE394.out | refine below_set ?_ GE409.out) | exact HB.out)) hb); have n4_ := Aside0.mk (hbox); have n5_ := Aside0.mk ((by rw [hg]; exact (below_size (by repeat (first | (with_reducible first | exact HB.out | apply below_alloc | apply pw_below_drewN | apply below_drew1 | refine below_set ?_ GE394.out | refine below_set ?_ GE409.out) | exact HB.out))) : w.heap.size ≤ gb420)); have n6_ := Aside0.mk ((by rw [hg]; exact (below_size (by repeat (first | (with_reducible first | exact HB.out | apply below_alloc | apply pw_below_drewN | apply below_drew1 | refine below_set ?_ GE394.out | refine below_set ?_ GE409.out) | exact HB.out))) : w.heap.size ≤ gb420)); have n7_ := Aside0.mk ((by rw [hg]; exact Nat.ne_of_lt (blk_lt (g := gb394) (o := .cells #[.int .i64 t390, .int .i64 t391, .int .i64 t392] 64 (0, 0)) (by (with_reducible repeat (first | refine blk_drewN ?_ _ | refine blk_drew ?_ | refine blk_alloc ?_ _)); exact BK394.out)) : gb394 ≠ gb420)); have n8_ := Aside0.mk ((by rw [hg]; exact Nat.ne_of_gt (blk_lt (g := gb394) (o := .cells #[.int .i64 t390, .int .i64 t391, .int .i64 t392] 64 (0, 0)) (by (with_reducible repeat (first | refine blk_drewN ?_ _ | refine blk_drew ?_ | refine blk_alloc ?_ _)); exact BK394.out)) : gb420 ≠ gb394)); have n9_ := Aside0.mk ((by rw [hg]; exact Nat.ne_of_lt (blk_lt (g := gb409) (o := .cells #[.int .i64 t403, .int .i64 t404, .int .i64 t405] 64 (0, 0)) (by (with_reducible repeat (first | refine blk_drewN ?_ _ | refine blk_drew ?_ | refine blk_alloc ?_ _)); exact BK409.out)) : gb409 ≠ gb420)); have n10_ := Aside0.mk ((by rw [hg]; exact Nat.ne_of_gt (blk_lt (g := gb409) (o := .cells #[.int .i64 t403, .int .i64 t404, .int .i64 t405] 64 (0, 0)) (by (with_reducible repeat (first | refine blk_drewN ?_ _ | refine blk_drew ?_ | refine blk_alloc ?_ _)); exact BK409.out)) : gb420 ≠ gb409)); clear HO408; clear BK394; clear BK409; clear HB; have HO408 := n0_; have BK394 := n1_; have BK409 := n2_; have HB := n3_; have BK420 := n4_; have GW420 := n5_; have GE420 := n6_; have NB394_420 := n7_; have NB420_394 := n8_; have NB409_420 := n9_; have NB420_409 := n10_; clear n0_ n1_ n2_ n3_ n4_ n5_ n6_ n7_ n8_ n9_ n10_; clear hb hbox hg; have hnb39 := NB420_394.out; have hnc39 := NB394_420.out; have hnb40 := NB420_409.out; have hnc40 := NB409_420.out; have hcz41_0 : w38.cell? ⟨gb420, 0, none⟩ = some (.int .i64 0) := (blk_cell BK420.out 0).trans rfl; have hcz41_1 : w38.cell? ⟨gb420, 1, none⟩ = some (.int .i64 0) := (blk_cell BK420.out 1).trans rfl; have hcz41_2 : w38.cell? ⟨gb420, 2, none⟩ = some (.int .i64 0) := (blk_cell BK420.out 2).trans rfl; have hfz41_0 := blk_frozen BK420.out 0; have hfz41_1 := blk_frozen BK420.out 1; have hfz41_2 := blk_frozen BK420.out 2) | ((with_reducible refine gate_callee (f := 57) rfl ?_); refine goesL_ (some 119) rfl rfl Try.func57 (by kernel_rfl) rfl #[.agg #[.int .i64 t416, .int .i64 t417, .int .i64 t418], .int .i64 t419] rfl (by (try simp only [List.map_toArray, List.map_cons, List.map_nil]); first | done | rfl | (simp only [List.length_drop, List.length_take]; rfl)) ?_; (with_reducible refine (impl_TurnLength.calls t416 t417 t418 t419 t421 t422 _ A13.out).mono ?_); rintro e w42 ⟨rfl, hb⟩; refine ⟨_, rfl, ?_⟩; have n0_ := Aside0.mk (Kd.R_below (by (with_reducible repeat (first | apply Kd.R_alloc | apply Kd.R_drewN | apply Kd.R_drew)); exact (Kd.R_mono (Kd.R_far (p := ⟨gb420, 2, none⟩) (Kd.R_far (p := ⟨gb420, 1, none⟩) (Kd.R_far (p := ⟨gb420, 0, none⟩) (Kd.R_types HO408.out BK420.out (by decide)) (fun _ hk => hk.2) (.int .i64 t416)) (fun _ hk => hk.2) (.int .i64 t417)) (fun _ hk => hk.2) (.int .i64 t418)) (fun _ h_ => h_.1))) hb); have n1_ := Aside0.mk (blk_below (g := gb394) (o := .cells #[.int .i64 t390, .int .i64 t391, .int .i64 t392] 64 (0, 0)) (by (with_reducible repeat (first | refine blk_drewN ?_ _ | refine blk_drew ?_ | refine blk_alloc ?_ _)); refine blk_far ?_ NB394_420.out _; (with_reducible repeat (first | refine blk_drewN ?_ _ | refine blk_drew ?_ | refine blk_alloc ?_ _)); refine blk_far ?_ NB394_420.out _; (with_reducible repeat (first | refine blk_drewN ?_ _ | refine blk_drew ?_ | refine blk_alloc ?_ _)); refine blk_far ?_ NB394_420.out _; (with_reducible repeat (first | refine blk_drewN ?_ _ | refine blk_drew ?_ | refine blk_alloc ?_ _)); exact BK394.out) hb); have n2_ := Aside0.mk (blk_below (g := gb409) (o := .cells #[.int .i64 t403, .int .i64 t404, .int .i64 t405] 64 (0, 0)) (by (with_reducible repeat (first | refine blk_drewN ?_ _ | refine blk_drew ?_ | refine blk_alloc ?_ _)); refine blk_far ?_ NB409_420.out _; (with_reducible repeat (first | refine blk_drewN ?_ _ | refine blk_drew ?_ | refine blk_alloc ?_ _)); refine blk_far ?_ NB409_420.out _; (with_reducible repeat (first | refine blk_drewN ?_ _ | refine blk_drew ?_ | refine blk_alloc ?_ _)); refine blk_far ?_ NB409_420.out _; (with_reducible repeat (first | refine blk_drewN ?_ _ | refine blk_drew ?_ | refine blk_alloc ?_ _)); exact BK409.out) hb); have n3_ := Aside0.mk (blk_below (g := gb420) (o := .cells #[.int .i64 t416, .int .i64 t417, .int .i64 t418] 64 (0, 0)) (by (with_reducible repeat (first | refine blk_drewN ?_ _ | refine blk_drew ?_ | refine blk_alloc ?_ _)); refine blk_put (cs := #[.int .i64 t416, .int .i64 t417, .int .i64 0]) ?_ 2 _ rfl; (with_reducible repeat (first | refine blk_drewN ?_ _ | refine blk_drew ?_ | refine blk_alloc ?_ _)); refine blk_put (cs := #[.int .i64 t416, .int .i64 0, .int .i64 0]) ?_ 1 _ rfl; (with_reducible repeat (first | refine blk_drewN ?_ _ | refine blk_drew ?_ | refine blk_alloc ?_ _)); refine blk_put (cs := #[.int .i64 0, .int .i64 0, .int .i64 0]) ?_ 0 _ rfl; (with_reducible repeat (first | refine blk_drewN ?_ _ | refine blk_drew ?_ | refine blk_alloc ?_ _)); exact BK420.out) hb); have n4_ := Aside0.mk (below_step (by repeat (first | (with_reducible first | exact HB.out | apply below_alloc | apply pw_below_drewN | apply below_drew1 | refine below_set ?_ GE394.out | refine below_set ?_ GE409.out | refine below_set ?_ GE420.out) | exact HB.out)) hb); clear HO408; clear BK394; clear BK409; clear BK420; clear HB; have HO408 := n0_; have BK394 := n1_; have BK409 := n2_; have BK420 := n3_; have HB := n4_; clear n0_ n1_ n2_ n3_ n4_; (try clear hb); (try clear hb2); (try clear hk); (try clear hi); have hcz43_0 : w42.cell? ⟨gb420, 0, none⟩ = some (.int .i64 t416) := (blk_cell BK420.out 0).trans rfl; have hcz43_1 : w42.cell? ⟨gb420, 1, none⟩ = some (.int .i64 t417) := (blk_cell BK420.out 1).trans rfl; have hcz43_2 : w42.cell? ⟨gb420, 2, none⟩ = some (.int .i64 t418) := (blk_cell BK420.out 2).trans rfl; have hfz43_0 := blk_frozen BK420.out 0; have hfz43_1 := blk_frozen BK420.out 1; have hfz43_2 := blk_frozen BK420.out 2) | ((with_reducible refine gate_callee (f := 58) rfl ?_); refine goesL_ (some 125) rfl rfl Try.func58 (by kernel_rfl) rfl #[.agg #[.int .i64 t416, .int .i64 t417, .int .i64 t418], .int .i64 t419] rfl (by (try simp only [List.map_toArray, List.map_cons, List.map_nil]); first | done | rfl | (simp only [List.length_drop, List.length_take]; rfl)) ?_; (with_reducible refine (spec_TurnLength.calls t416 t417 t418 t419 t423 t424 _ A14.out).mono ?_); rintro e w44 ⟨rfl, hb⟩; refine ⟨_, rfl, ?_⟩; have n0_ := Aside0.mk (Kd.R_below (by (with_reducible repeat (first | apply Kd.R_alloc | apply Kd.R_drewN | apply Kd.R_drew)); exact HO408.out) hb); have n1_ := Aside0.mk (blk_below (g := gb394) (o := .cells #[.int .i64 t390, .int .i64 t391, .int .i64 t392] 64 (0, 0)) (by (with_reducible repeat (first | refine blk_drewN ?_ _ | refine blk_drew ?_ | refine blk_alloc ?_ _)); exact BK394.out) hb); have n2_ := Aside0.mk (blk_below (g := gb409) (o := .cells #[.int .i64 t403, .int .i64 t404, .int .i64 t405] 64 (0, 0)) (by (with_reducible repeat (first | refine blk_drewN ?_ _ | refine blk_drew ?_ | refine blk_alloc ?_ _)); exact BK409.out) hb); have n3_ := Aside0.mk (blk_below (g := gb420) (o := .cells #[.int .i64 t416, .int .i64 t417, .int .i64 t418] 64 (0, 0)) (by (with_reducible repeat (first | refine blk_drewN ?_ _ | refine blk_drew ?_ | refine blk_alloc ?_ _)); exact BK420.out) hb); have n4_ := Aside0.mk (below_step (by repeat (first | (with_reducible first | exact HB.out | apply below_alloc | apply pw_below_drewN | apply below_drew1 | refine below_set ?_ GE394.out | refine below_set ?_ GE409.out | refine below_set ?_ GE420.out) | exact HB.out)) hb); clear HO408; clear BK394; clear BK409; clear BK420; clear HB; have HO408 := n0_; have BK394 := n1_; have BK409 := n2_; have BK420 := n3_; have HB := n4_; clear n0_ n1_ n2_ n3_ n4_; (try clear hb); (try clear hb2); (try clear hk); (try clear hi)) | ((with_reducible refine gate_callee (f := 59) rfl ?_); refine goesL_ (some 130) rfl rfl Try.func59 (by kernel_rfl) rfl #[.slice A1 l1.length c1] rfl (by (try simp only [List.map_toArray, List.map_cons, List.map_nil]); first | done | rfl | (simp only [List.length_drop, List.length_take]; rfl)) ?_; (with_reducible refine (spec_DrawLengthWound.calls _ _ l1 t425 t426 t427 t428 _ ?side1 ?side2 A15.out).mono ?_); (case side1 => repeat (first | exact (Kd.C_below HR1.out HB.out) | (with_reducible refine Kd.C_alloc ?_ _) | (with_reducible refine Kd.C_drewN ?_ _) | (with_reducible refine Kd.C_drew ?_))); (case side2 => exact HC1.out); rintro e w45 ⟨rfl, hb⟩; refine ⟨_, rfl, ?_⟩; have n0_ := Aside0.mk (Kd.R_below (by (with_reducible repeat (first | apply Kd.R_alloc | apply Kd.R_drewN | apply Kd.R_drew)); exact HO408.out) hb); have n1_ := Aside0.mk (blk_below (g := gb394) (o := .cells #[.int .i64 t390, .int .i64 t391, .int .i64 t392] 64 (0, 0)) (by (with_reducible repeat (first | refine blk_drewN ?_ _ | refine blk_drew ?_ | refine blk_alloc ?_ _)); exact BK394.out) hb); have n2_ := Aside0.mk (blk_below (g := gb409) (o := .cells #[.int .i64 t403, .int .i64 t404, .int .i64 t405] 64 (0, 0)) (by (with_reducible repeat (first | refine blk_drewN ?_ _ | refine blk_drew ?_ | refine blk_alloc ?_ _)); exact BK409.out) hb); have n3_ := Aside0.mk (blk_below (g := gb420) (o := .cells #[.int .i64 t416, .int .i64 t417, .int .i64 t418] 64 (0, 0)) (by (with_reducible repeat (first | refine blk_drewN ?_ _ | refine blk_drew ?_ | refine blk_alloc ?_ _)); exact BK420.out) hb); have n4_ := Aside0.mk (below_step (by repeat (first | (with_reducible first | exact HB.out | apply below_alloc | apply pw_below_drewN | apply below_drew1 | refine below_set ?_ GE394.out | refine below_set ?_ GE409.out | refine below_set ?_ GE420.out) | exact HB.out)) hb); clear HO408; clear BK394; clear BK409; clear BK420; clear HB; have HO408 := n0_; have BK394 := n1_; have BK409 := n2_; have BK420 := n3_; have HB := n4_; clear n0_ n1_ n2_ n3_ n4_; (try clear hb); (try clear hb2); (try clear hk); (try clear hi)) | ((with_reducible refine gate_dst (N := 29) rfl ?_); (try (refine gate_guard (by rfl) ?_; dsimp only)); refine box_event ?hg (N := 29) ?hd (cs := #[.int .i64 0, .int .i64 0, .int .i64 0]) (t := 64) ?hr ?_; (case hd => rfl); (case hg => rfl); (case hr => first | (go_simp; done) | (go_simp; rfl)); intro gb429 hg w46 hbox hb; have n0_ := Aside0.mk (Kd.R_below (by (with_reducible repeat (first | apply Kd.R_alloc | apply Kd.R_drewN | apply Kd.R_drew)); exact HO408.out) hb); have n1_ := Aside0.mk (blk_below (g := gb394) (o := .cells #[.int .i64 t390, .int .i64 t391, .int .i64 t392] 64 (0, 0)) (by (with_reducible repeat (first | refine blk_drewN ?_ _ | refine blk_drew ?_ | refine blk_alloc ?_ _)); exact BK394.out) hb); have n2_ := Aside0.mk (blk_below (g := gb409) (o := .cells #[.int .i64 t403, .int .i64 t404, .int .i64 t405] 64 (0, 0)) (by (with_reducible repeat (first | refine blk_drewN ?_ _ | refine blk_drew ?_ | refine blk_alloc ?_ _)); exact BK409.out) hb); have n3_ := Aside0.mk (blk_below (g := gb420) (o := .cells #[.int .i64 t416, .int .i64 t417, .int .i64 t418] 64 (0, 0)) (by (with_reducible repeat (first | refine blk_drewN ?_ _ | refine blk_drew ?_ | refine blk_alloc ?_ _)); exact BK420.out) hb); have n4_ := Aside0.mk (below_step (by repeat (first | (with_reducible first | exact HB.out | apply below_alloc | apply pw_below_drewN | apply below_drew1 | refine below_set ?_ GE394.out | refine below_set ?_ GE409.out | refine below_set ?_ GE420.out) | exact HB.out)) hb); have n5_ := Aside0.mk (hbox); have n6_ := Aside0.mk ((by rw [hg]; exact (below_size (by repeat (first | (with_reducible first | exact HB.out | apply below_alloc | apply pw_below_drewN | apply below_drew1 | refine below_set ?_ GE394.out | refine below_set ?_ GE409.out | refine below_set ?_ GE420.out) | exact HB.out))) : w.heap.size ≤ gb429)); have n7_ := Aside0.mk ((by rw [hg]; exact (below_size (by repeat (first | (with_reducible first | exact HB.out | apply below_alloc | apply pw_below_drewN | apply below_drew1 | refine below_set ?_ GE394.out | refine below_set ?_ GE409.out | refine below_set ?_ GE420.out) | exact HB.out))) : w.heap.size ≤ gb429)); have n8_ := Aside0.mk ((by rw [hg]; exact Nat.ne_of_lt (blk_lt (g := gb394) (o := .cells #[.int .i64 t390, .int .i64 t391, .int .i64 t392] 64 (0, 0)) (by (with_reducible repeat (first | refine blk_drewN ?_ _ | refine blk_drew ?_ | refine blk_alloc ?_ _)); exact BK394.out)) : gb394 ≠ gb429)); have n9_ := Aside0.mk ((by rw [hg]; exact Nat.ne_of_gt (blk_lt (g := gb394) (o := .cells #[.int .i64 t390, .int .i64 t391, .int .i64 t392] 64 (0, 0)) (by (with_reducible repeat (first | refine blk_drewN ?_ _ | refine blk_drew ?_ | refine blk_alloc ?_ _)); exact BK394.out)) : gb429 ≠ gb394)); have n10_ := Aside0.mk ((by rw [hg]; exact Nat.ne_of_lt (blk_lt (g := gb409) (o := .cells #[.int .i64 t403, .int .i64 t404, .int .i64 t405] 64 (0, 0)) (by (with_reducible repeat (first | refine blk_drewN ?_ _ | refine blk_drew ?_ | refine blk_alloc ?_ _)); exact BK409.out)) : gb409 ≠ gb429)); have n11_ := Aside0.mk ((by rw [hg]; exact Nat.ne_of_gt (blk_lt (g := gb409) (o := .cells #[.int .i64 t403, .int .i64 t404, .int .i64 t405] 64 (0, 0)) (by (with_reducible repeat (first | refine blk_drewN ?_ _ | refine blk_drew ?_ | refine blk_alloc ?_ _)); exact BK409.out)) : gb429 ≠ gb409)); have n12_ := Aside0.mk ((by rw [hg]; exact Nat.ne_of_lt (blk_lt (g := gb420) (o := .cells #[.int .i64 t416, .int .i64 t417, .int .i64 t418] 64 (0, 0)) (by (with_reducible repeat (first | refine blk_drewN ?_ _ | refine blk_drew ?_ | refine blk_alloc ?_ _)); exact BK420.out)) : gb420 ≠ gb429)); have n13_ := Aside0.mk ((by rw [hg]; exact Nat.ne_of_gt (blk_lt (g := gb420) (o := .cells #[.int .i64 t416, .int .i64 t417, .int .i64 t418] 64 (0, 0)) (by (with_reducible repeat (first | refine blk_drewN ?_ _ | refine blk_drew ?_ | refine blk_alloc ?_ _)); exact BK420.out)) : gb429 ≠ gb420)); clear HO408; clear BK394; clear BK409; clear BK420; clear HB; have HO408 := n0_; have BK394 := n1_; have BK409 := n2_; have BK420 := n3_; have HB := n4_; have BK429 := n5_; have GW429 := n6_; have GE429 := n7_; have NB394_429 := n8_; have NB429_394 := n9_; have NB409_429 := n10_; have NB429_409 := n11_; have NB420_429 := n12_; have NB429_420 := n13_; clear n0_ n1_ n2_ n3_ n4_ n5_ n6_ n7_ n8_ n9_ n10_ n11_ n12_ n13_; clear hb hbox hg; have hnb47 := NB429_394.out; have hnc47 := NB394_429.out; have hnb48 := NB429_409.out; have hnc48 := NB409_429.out; have hnb49 := NB429_420.out; have hnc49 := NB420_429.out; have hcz50_0 : w46.cell? ⟨gb429, 0, none⟩ = some (.int .i64 0) := (blk_cell BK429.out 0).trans rfl; have hcz50_1 : w46.cell? ⟨gb429, 1, none⟩ = some (.int .i64 0) := (blk_cell BK429.out 1).trans rfl; have hcz50_2 : w46.cell? ⟨gb429, 2, none⟩ = some (.int .i64 0) := (blk_cell BK429.out 2).trans rfl; have hfz50_0 := blk_frozen BK429.out 0; have hfz50_1 := blk_frozen BK429.out 1; have hfz50_2 := blk_frozen BK429.out 2) | ((with_reducible refine gate_callee (f := 60) rfl ?_); refine goesL_ (some 136) rfl rfl Try.func60 (by kernel_rfl) rfl #[.agg #[.int .i64 t425, .int .i64 t426, .int .i64 t427], .int .i64 t428] rfl (by (try simp only [List.map_toArray, List.map_cons, List.map_nil]); first | done | rfl | (simp only [List.length_drop, List.length_take]; rfl)) ?_; (with_reducible refine (impl_LengthWound.calls t425 t426 t427 t428 t430 t431 _ A16.out).mono ?_); rintro e w51 ⟨rfl, hb⟩; refine ⟨_, rfl, ?_⟩; have n0_ := Aside0.mk (Kd.R_below (by (with_reducible repeat (first | apply Kd.R_alloc | apply Kd.R_drewN | apply Kd.R_drew)); exact (Kd.R_mono (Kd.R_far (p := ⟨gb429, 2, none⟩) (Kd.R_far (p := ⟨gb429, 1, none⟩) (Kd.R_far (p := ⟨gb429, 0, none⟩) (Kd.R_types HO408.out BK429.out (by decide)) (fun _ hk => hk.2) (.int .i64 t425)) (fun _ hk => hk.2) (.int .i64 t426)) (fun _ hk => hk.2) (.int .i64 t427)) (fun _ h_ => h_.1))) hb); have n1_ := Aside0.mk (blk_below (g := gb394) (o := .cells #[.int .i64 t390, .int .i64 t391, .int .i64 t392] 64 (0, 0)) (by (with_reducible repeat (first | refine blk_drewN ?_ _ | refine blk_drew ?_ | refine blk_alloc ?_ _)); refine blk_far ?_ NB394_429.out _; (with_reducible repeat (first | refine blk_drewN ?_ _ | refine blk_drew ?_ | refine blk_alloc ?_ _)); refine blk_far ?_ NB394_429.out _; (with_reducible repeat (first | refine blk_drewN ?_ _ | refine blk_drew ?_ | refine blk_alloc ?_ _)); refine blk_far ?_ NB394_429.out _; (with_reducible repeat (first | refine blk_drewN ?_ _ | refine blk_drew ?_ | refine blk_alloc ?_ _)); exact BK394.out) hb); have n2_ := Aside0.mk (blk_below (g := gb409) (o := .cells #[.int .i64 t403, .int .i64 t404, .int .i64 t405] 64 (0, 0)) (by (with_reducible repeat (first | refine blk_drewN ?_ _ | refine blk_drew ?_ | refine blk_alloc ?_ _)); refine blk_far ?_ NB409_429.out _; (with_reducible repeat (first | refine blk_drewN ?_ _ | refine blk_drew ?_ | refine blk_alloc ?_ _)); refine blk_far ?_ NB409_429.out _; (with_reducible repeat (first | refine blk_drewN ?_ _ | refine blk_drew ?_ | refine blk_alloc ?_ _)); refine blk_far ?_ NB409_429.out _; (with_reducible repeat (first | refine blk_drewN ?_ _ | refine blk_drew ?_ | refine blk_alloc ?_ _)); exact BK409.out) hb); have n3_ := Aside0.mk (blk_below (g := gb420) (o := .cells #[.int .i64 t416, .int .i64 t417, .int .i64 t418] 64 (0, 0)) (by (with_reducible repeat (first | refine blk_drewN ?_ _ | refine blk_drew ?_ | refine blk_alloc ?_ _)); refine blk_far ?_ NB420_429.out _; (with_reducible repeat (first | refine blk_drewN ?_ _ | refine blk_drew ?_ | refine blk_alloc ?_ _)); refine blk_far ?_ NB420_429.out _; (with_reducible repeat (first | refine blk_drewN ?_ _ | refine blk_drew ?_ | refine blk_alloc ?_ _)); refine blk_far ?_ NB420_429.out _; (with_reducible repeat (first | refine blk_drewN ?_ _ | refine blk_drew ?_ | refine blk_alloc ?_ _)); exact BK420.out) hb); have n4_ := Aside0.mk (blk_below (g := gb429) (o := .cells #[.int .i64 t425, .int .i64 t426, .int .i64 t427] 64 (0, 0)) (by (with_reducible repeat (first | refine blk_drewN ?_ _ | refine blk_drew ?_ | refine blk_alloc ?_ _)); refine blk_put (cs := #[.int .i64 t425, .int .i64 t426, .int .i64 0]) ?_ 2 _ rfl; (with_reducible repeat (first | refine blk_drewN ?_ _ | refine blk_drew ?_ | refine blk_alloc ?_ _)); refine blk_put (cs := #[.int .i64 t425, .int .i64 0, .int .i64 0]) ?_ 1 _ rfl; (with_reducible repeat (first | refine blk_drewN ?_ _ | refine blk_drew ?_ | refine blk_alloc ?_ _)); refine blk_put (cs := #[.int .i64 0, .int .i64 0, .int .i64 0]) ?_ 0 _ rfl; (with_reducible repeat (first | refine blk_drewN ?_ _ | refine blk_drew ?_ | refine blk_alloc ?_ _)); exact BK429.out) hb); have n5_ := Aside0.mk (below_step (by repeat (first | (with_reducible first | exact HB.out | apply below_alloc | apply pw_below_drewN | apply below_drew1 | refine below_set ?_ GE394.out | refine below_set ?_ GE409.out | refine below_set ?_ GE420.out | refine below_set ?_ GE429.out) | exact HB.out)) hb); clear HO408; clear BK394; clear BK409; clear BK420; clear BK429; clear HB; have HO408 := n0_; have BK394 := n1_; have BK409 := n2_; have BK420 := n3_; have BK429 := n4_; have HB := n5_; clear n0_ n1_ n2_ n3_ n4_ n5_; (try clear hb); (try clear hb2); (try clear hk); (try clear hi); have hcz52_0 : w51.cell? ⟨gb429, 0, none⟩ = some (.int .i64 t425) := (blk_cell BK429.out 0).trans rfl; have hcz52_1 : w51.cell? ⟨gb429, 1, none⟩ = some (.int .i64 t426) := (blk_cell BK429.out 1).trans rfl; have hcz52_2 : w51.cell? ⟨gb429, 2, none⟩ = some (.int .i64 t427) := (blk_cell BK429.out 2).trans rfl; have hfz52_0 := blk_frozen BK429.out 0; have hfz52_1 := blk_frozen BK429.out 1; have hfz52_2 := blk_frozen BK429.out 2) | ((with_reducible refine gate_callee (f := 61) rfl ?_); refine goesL_ (some 142) rfl rfl Try.func61 (by kernel_rfl) rfl #[.agg #[.int .i64 t425, .int .i64 t426, .int .i64 t427], .int .i64 t428] rfl (by (try simp only [List.map_toArray, List.map_cons, List.map_nil]); first | done | rfl | (simp only [List.length_drop, List.length_take]; rfl)) ?_; (with_reducible refine (spec_LengthWound.calls t425 t426 t427 t428 t432 t433 _ A17.out).mono ?_); rintro e w53 ⟨rfl, hb⟩; refine ⟨_, rfl, ?_⟩; have n0_ := Aside0.mk (Kd.R_below (by (with_reducible repeat (first | apply Kd.R_alloc | apply Kd.R_drewN | apply Kd.R_drew)); exact HO408.out) hb); have n1_ := Aside0.mk (blk_below (g := gb394) (o := .cells #[.int .i64 t390, .int .i64 t391, .int .i64 t392] 64 (0, 0)) (by (with_reducible repeat (first | refine blk_drewN ?_ _ | refine blk_drew ?_ | refine blk_alloc ?_ _)); exact BK394.out) hb); have n2_ := Aside0.mk (blk_below (g := gb409) (o := .cells #[.int .i64 t403, .int .i64 t404, .int .i64 t405] 64 (0, 0)) (by (with_reducible repeat (first | refine blk_drewN ?_ _ | refine blk_drew ?_ | refine blk_alloc ?_ _)); exact BK409.out) hb); have n3_ := Aside0.mk (blk_below (g := gb420) (o := .cells #[.int .i64 t416, .int .i64 t417, .int .i64 t418] 64 (0, 0)) (by (with_reducible repeat (first | refine blk_drewN ?_ _ | refine blk_drew ?_ | refine blk_alloc ?_ _)); exact BK420.out) hb); have n4_ := Aside0.mk (blk_below (g := gb429) (o := .cells #[.int .i64 t425, .int .i64 t426, .int .i64 t427] 64 (0, 0)) (by (with_reducible repeat (first | refine blk_drewN ?_ _ | refine blk_drew ?_ | refine blk_alloc ?_ _)); exact BK429.out) hb); have n5_ := Aside0.mk (below_step (by repeat (first | (with_reducible first | exact HB.out | apply below_alloc | apply pw_below_drewN | apply below_drew1 | refine below_set ?_ GE394.out | refine below_set ?_ GE409.out | refine below_set ?_ GE420.out | refine below_set ?_ GE429.out) | exact HB.out)) hb); clear HO408; clear BK394; clear BK409; clear BK420; clear BK429; clear HB; have HO408 := n0_; have BK394 := n1_; have BK409 := n2_; have BK420 := n3_; have BK429 := n4_; have HB := n5_; clear n0_ n1_ n2_ n3_ n4_ n5_; (try clear hb); (try clear hb2); (try clear hk); (try clear hi)))
  (try simp only [Act.put, List.setIfInBounds_toArray, List.set_cons_zero, List.set_cons_succ])
  go_cut [202] (fun v202 wc => ∃ (kq : Nat) (x202_17 : Bool), v202 = .bool x202_17 ∧ Aside0 (laws_FnSpools.j0 kq t393 t396 t397 t401 t406 t412 t413 t414 t419 t422 t423 t428 t431 t432 x202_17 t390 t391 t392 t403 t404 t405 t416 t417 t418 t425 t426 t427 = some r) ∧ Aside0 (kq ≤ k) ∧ Aside0 (Kd.R (Kd.int .i64) 3 wc w.heap.size (fun _ => True) (.slice Ao33 t406.length co33) t406) ∧ Aside0 (wc.heap[gb394]? = some (.cells #[.int .i64 t390, .int .i64 t391, .int .i64 t392] 64 (0, 0))) ∧ Aside0 (wc.heap[gb409]? = some (.cells #[.int .i64 t403, .int .i64 t404, .int .i64 t405] 64 (0, 0))) ∧ Aside0 (wc.heap[gb420]? = some (.cells #[.int .i64 t416, .int .i64 t417, .int .i64 t418] 64 (0, 0))) ∧ Aside0 (wc.heap[gb429]? = some (.cells #[.int .i64 t425, .int .i64 t426, .int .i64 t427] 64 (0, 0))) ∧ Aside0 (Below w.heap.size w wc))
  case first =>
   as_aux_lemma =>
    have H := HC18.out
    clear HC18
    by_cases c54 : (t396 != t398) = true
    ·rw [if_pos c54] at H
     have c54b0 : (t396 != t398) = true := c54
     (try (have c54b1 : decide (t396 = t398) = false := by simpa using c54))
     (try (have c54b2 : (t396 == t398) = false := by simpa using c54))
     (try (have c54b3 : ¬ (t396 = t398) := by simpa using c54))
     clear c54
     (first | rw [c54b0] | (simp only [i64_w, i32_w]; rw [c54b0]) | skip)
     have H' := Aside0.mk H
     clear H
     as_aux_lemma =>
      go_wp2
      (refine Met.intro ?_; go_step; (repeat (first | apply ex_32 | apply ex_8 | apply Exists.intro)); refine ⟨?rel, rfl⟩)
      case rel => exact ⟨_, (true), (by first | rfl | (simp; done) | (simp [*]; done)), H', ⟨by first | omega | exact Nat.le_refl _⟩, ⟨by (with_reducible repeat (first | apply Kd.R_alloc | apply Kd.R_drewN | apply Kd.R_drew)); exact HO408.out⟩, ⟨by (with_reducible repeat (first | refine blk_drewN ?_ _ | refine blk_drew ?_ | refine blk_alloc ?_ _)); exact BK394.out⟩, ⟨by (with_reducible repeat (first | refine blk_drewN ?_ _ | refine blk_drew ?_ | refine blk_alloc ?_ _)); exact BK409.out⟩, ⟨by (with_reducible repeat (first | refine blk_drewN ?_ _ | refine blk_drew ?_ | refine blk_alloc ?_ _)); exact BK420.out⟩, ⟨by (with_reducible repeat (first | refine blk_drewN ?_ _ | refine blk_drew ?_ | refine blk_alloc ?_ _)); exact BK429.out⟩, ⟨by repeat (first | (with_reducible first | exact HB.out | apply below_alloc | apply pw_below_drewN | apply below_drew1 | refine below_set ?_ GE394.out | refine below_set ?_ GE409.out | refine below_set ?_ GE420.out | refine below_set ?_ GE429.out) | exact HB.out)⟩⟩
    ·rw [if_neg c54] at H
     have c54b0 : (t396 != t398) = false := by simpa using c54
     (try (have c54b1 : decide (t396 = t398) = true := by simpa using c54))
     (try (have c54b2 : (t396 == t398) = true := by simpa using c54))
     clear c54
     (first | rw [c54b0] | (simp only [i64_w, i32_w]; rw [c54b0]) | skip)
     by_cases c55 : t395 = t397
     ·rw [if_pos c55] at H
      have c55b0 : (t395 == t397) = true := beq_iff_eq.mpr c55
      have c55b1 : (t395 != t397) = false := bne_eq_false_iff_eq.mpr c55
      clear c55
      by_cases c56 : (t400 != t402) = true
      ·rw [if_pos c56] at H
       have c56b0 : (t400 != t402) = true := c56
       (try (have c56b1 : decide (t400 = t402) = false := by simpa using c56))
       (try (have c56b2 : (t400 == t402) = false := by simpa using c56))
       (try (have c56b3 : ¬ (t400 = t402) := by simpa using c56))
       clear c56
       have H' := Aside0.mk H
       clear H
       as_aux_lemma =>
        go_wp2
        (refine Met.intro ?_; go_step; (repeat (first | apply ex_32 | apply ex_8 | apply Exists.intro)); refine ⟨?rel, rfl⟩)
        case rel => exact ⟨_, (true), (by first | rfl | (simp; done) | (simp [*]; done)), H', ⟨by first | omega | exact Nat.le_refl _⟩, ⟨by (with_reducible repeat (first | apply Kd.R_alloc | apply Kd.R_drewN | apply Kd.R_drew)); exact HO408.out⟩, ⟨by (with_reducible repeat (first | refine blk_drewN ?_ _ | refine blk_drew ?_ | refine blk_alloc ?_ _)); exact BK394.out⟩, ⟨by (with_reducible repeat (first | refine blk_drewN ?_ _ | refine blk_drew ?_ | refine blk_alloc ?_ _)); exact BK409.out⟩, ⟨by (with_reducible repeat (first | refine blk_drewN ?_ _ | refine blk_drew ?_ | refine blk_alloc ?_ _)); exact BK420.out⟩, ⟨by (with_reducible repeat (first | refine blk_drewN ?_ _ | refine blk_drew ?_ | refine blk_alloc ?_ _)); exact BK429.out⟩, ⟨by repeat (first | (with_reducible first | exact HB.out | apply below_alloc | apply pw_below_drewN | apply below_drew1 | refine below_set ?_ GE394.out | refine below_set ?_ GE409.out | refine below_set ?_ GE420.out | refine below_set ?_ GE429.out) | exact HB.out)⟩⟩
      ·rw [if_neg c56] at H
       have c56b0 : (t400 != t402) = false := by simpa using c56
       (try (have c56b1 : decide (t400 = t402) = true := by simpa using c56))
       (try (have c56b2 : (t400 == t402) = true := by simpa using c56))
       clear c56
       by_cases c57 : t399 = t401
       ·rw [if_pos c57] at H
        have c57b0 : (t399 == t401) = true := beq_iff_eq.mpr c57
        have c57b1 : (t399 != t401) = false := bne_eq_false_iff_eq.mpr c57
        clear c57
        by_cases c58 : (t412 != t415) = true
        ·rw [if_pos c58] at H
         have c58b0 : (t412 != t415) = true := c58
         (try (have c58b1 : decide (t412 = t415) = false := by simpa using c58))
         (try (have c58b2 : (t412 == t415) = false := by simpa using c58))
         (try (have c58b3 : ¬ (t412 = t415) := by simpa using c58))
         clear c58
         have H' := Aside0.mk H
         clear H
         as_aux_lemma =>
          go_wp2
          (refine Met.intro ?_; go_step; (repeat (first | apply ex_32 | apply ex_8 | apply Exists.intro)); refine ⟨?rel, rfl⟩)
          case rel => exact ⟨_, (true), (by first | rfl | (simp; done) | (simp [*]; done)), H', ⟨by first | omega | exact Nat.le_refl _⟩, ⟨by (with_reducible repeat (first | apply Kd.R_alloc | apply Kd.R_drewN | apply Kd.R_drew)); exact HO408.out⟩, ⟨by (with_reducible repeat (first | refine blk_drewN ?_ _ | refine blk_drew ?_ | refine blk_alloc ?_ _)); exact BK394.out⟩, ⟨by (with_reducible repeat (first | refine blk_drewN ?_ _ | refine blk_drew ?_ | refine blk_alloc ?_ _)); exact BK409.out⟩, ⟨by (with_reducible repeat (first | refine blk_drewN ?_ _ | refine blk_drew ?_ | refine blk_alloc ?_ _)); exact BK420.out⟩, ⟨by (with_reducible repeat (first | refine blk_drewN ?_ _ | refine blk_drew ?_ | refine blk_alloc ?_ _)); exact BK429.out⟩, ⟨by repeat (first | (with_reducible first | exact HB.out | apply below_alloc | apply pw_below_drewN | apply below_drew1 | refine below_set ?_ GE394.out | refine below_set ?_ GE409.out | refine below_set ?_ GE420.out | refine below_set ?_ GE429.out) | exact HB.out)⟩⟩
        ·rw [if_neg c58] at H
         have c58b0 : (t412 != t415) = false := by simpa using c58
         (try (have c58b1 : decide (t412 = t415) = true := by simpa using c58))
         (try (have c58b2 : (t412 == t415) = true := by simpa using c58))
         clear c58
         by_cases c59 : t410 = t413
         ·rw [if_pos c59] at H
          have c59b0 : (t410 == t413) = true := beq_iff_eq.mpr c59
          have c59b1 : (t410 != t413) = false := bne_eq_false_iff_eq.mpr c59
          clear c59
          by_cases c60 : t411 = t414
          ·rw [if_pos c60] at H
           have c60b0 : (t411 == t414) = true := beq_iff_eq.mpr c60
           have c60b1 : (t411 != t414) = false := bne_eq_false_iff_eq.mpr c60
           clear c60
           by_cases c61 : (t422 != t424) = true
           ·rw [if_pos c61] at H
            have c61b0 : (t422 != t424) = true := c61
            (try (have c61b1 : decide (t422 = t424) = false := by simpa using c61))
            (try (have c61b2 : (t422 == t424) = false := by simpa using c61))
            (try (have c61b3 : ¬ (t422 = t424) := by simpa using c61))
            clear c61
            have H' := Aside0.mk H
            clear H
            as_aux_lemma =>
             go_wp2
             (refine Met.intro ?_; go_step; (repeat (first | apply ex_32 | apply ex_8 | apply Exists.intro)); refine ⟨?rel, rfl⟩)
             case rel => exact ⟨_, (true), (by first | rfl | (simp; done) | (simp [*]; done)), H', ⟨by first | omega | exact Nat.le_refl _⟩, ⟨by (with_reducible repeat (first | apply Kd.R_alloc | apply Kd.R_drewN | apply Kd.R_drew)); exact HO408.out⟩, ⟨by (with_reducible repeat (first | refine blk_drewN ?_ _ | refine blk_drew ?_ | refine blk_alloc ?_ _)); exact BK394.out⟩, ⟨by (with_reducible repeat (first | refine blk_drewN ?_ _ | refine blk_drew ?_ | refine blk_alloc ?_ _)); exact BK409.out⟩, ⟨by (with_reducible repeat (first | refine blk_drewN ?_ _ | refine blk_drew ?_ | refine blk_alloc ?_ _)); exact BK420.out⟩, ⟨by (with_reducible repeat (first | refine blk_drewN ?_ _ | refine blk_drew ?_ | refine blk_alloc ?_ _)); exact BK429.out⟩, ⟨by repeat (first | (with_reducible first | exact HB.out | apply below_alloc | apply pw_below_drewN | apply below_drew1 | refine below_set ?_ GE394.out | refine below_set ?_ GE409.out | refine below_set ?_ GE420.out | refine below_set ?_ GE429.out) | exact HB.out)⟩⟩
           ·rw [if_neg c61] at H
            have c61b0 : (t422 != t424) = false := by simpa using c61
            (try (have c61b1 : decide (t422 = t424) = true := by simpa using c61))
            (try (have c61b2 : (t422 == t424) = true := by simpa using c61))
            clear c61
            by_cases c62 : t421 = t423
            ·rw [if_pos c62] at H
             have c62b0 : (t421 == t423) = true := beq_iff_eq.mpr c62
             have c62b1 : (t421 != t423) = false := bne_eq_false_iff_eq.mpr c62
             clear c62
             by_cases c63 : (t431 != t433) = true
             ·rw [if_pos c63] at H
              have c63b0 : (t431 != t433) = true := c63
              (try (have c63b1 : decide (t431 = t433) = false := by simpa using c63))
              (try (have c63b2 : (t431 == t433) = false := by simpa using c63))
              (try (have c63b3 : ¬ (t431 = t433) := by simpa using c63))
              clear c63
              have H' := Aside0.mk H
              clear H
              as_aux_lemma =>
               go_wp2
               (refine Met.intro ?_; go_step; (repeat (first | apply ex_32 | apply ex_8 | apply Exists.intro)); refine ⟨?rel, rfl⟩)
               case rel => exact ⟨_, (true), (by first | rfl | (simp; done) | (simp [*]; done)), H', ⟨by first | omega | exact Nat.le_refl _⟩, ⟨by (with_reducible repeat (first | apply Kd.R_alloc | apply Kd.R_drewN | apply Kd.R_drew)); exact HO408.out⟩, ⟨by (with_reducible repeat (first | refine blk_drewN ?_ _ | refine blk_drew ?_ | refine blk_alloc ?_ _)); exact BK394.out⟩, ⟨by (with_reducible repeat (first | refine blk_drewN ?_ _ | refine blk_drew ?_ | refine blk_alloc ?_ _)); exact BK409.out⟩, ⟨by (with_reducible repeat (first | refine blk_drewN ?_ _ | refine blk_drew ?_ | refine blk_alloc ?_ _)); exact BK420.out⟩, ⟨by (with_reducible repeat (first | refine blk_drewN ?_ _ | refine blk_drew ?_ | refine blk_alloc ?_ _)); exact BK429.out⟩, ⟨by repeat (first | (with_reducible first | exact HB.out | apply below_alloc | apply pw_below_drewN | apply below_drew1 | refine below_set ?_ GE394.out | refine below_set ?_ GE409.out | refine below_set ?_ GE420.out | refine below_set ?_ GE429.out) | exact HB.out)⟩⟩
             ·rw [if_neg c63] at H
              have c63b0 : (t431 != t433) = false := by simpa using c63
              (try (have c63b1 : decide (t431 = t433) = true := by simpa using c63))
              (try (have c63b2 : (t431 == t433) = true := by simpa using c63))
              clear c63
              by_cases c64 : t430 = t432
              ·rw [if_pos c64] at H
               have c64b0 : (t430 == t432) = true := beq_iff_eq.mpr c64
               have c64b1 : (t430 != t432) = false := bne_eq_false_iff_eq.mpr c64
               clear c64
               have H' := Aside0.mk H
               clear H
               as_aux_lemma =>
                go_wp2
                (refine Met.intro ?_; go_step; (repeat (first | apply ex_32 | apply ex_8 | apply Exists.intro)); refine ⟨?rel, rfl⟩)
                case rel => exact ⟨_, ((t400 != t396)), (by first | rfl | (simp; done) | (simp [*]; done)), H', ⟨by first | omega | exact Nat.le_refl _⟩, ⟨by (with_reducible repeat (first | apply Kd.R_alloc | apply Kd.R_drewN | apply Kd.R_drew)); exact HO408.out⟩, ⟨by (with_reducible repeat (first | refine blk_drewN ?_ _ | refine blk_drew ?_ | refine blk_alloc ?_ _)); exact BK394.out⟩, ⟨by (with_reducible repeat (first | refine blk_drewN ?_ _ | refine blk_drew ?_ | refine blk_alloc ?_ _)); exact BK409.out⟩, ⟨by (with_reducible repeat (first | refine blk_drewN ?_ _ | refine blk_drew ?_ | refine blk_alloc ?_ _)); exact BK420.out⟩, ⟨by (with_reducible repeat (first | refine blk_drewN ?_ _ | refine blk_drew ?_ | refine blk_alloc ?_ _)); exact BK429.out⟩, ⟨by repeat (first | (with_reducible first | exact HB.out | apply below_alloc | apply pw_below_drewN | apply below_drew1 | refine below_set ?_ GE394.out | refine below_set ?_ GE409.out | refine below_set ?_ GE420.out | refine below_set ?_ GE429.out) | exact HB.out)⟩⟩
              ·rw [if_neg c64] at H
               have c64b0 : (t430 == t432) = false := beq_eq_false_iff_ne.mpr c64
               have c64b1 : (t430 != t432) = true := bne_iff_ne.mpr c64
               have H' := Aside0.mk H
               clear H
               as_aux_lemma =>
                go_wp2
                (refine Met.intro ?_; go_step; (repeat (first | apply ex_32 | apply ex_8 | apply Exists.intro)); refine ⟨?rel, rfl⟩)
                case rel => exact ⟨_, (true), (by first | rfl | (simp; done) | (simp [*]; done)), H', ⟨by first | omega | exact Nat.le_refl _⟩, ⟨by (with_reducible repeat (first | apply Kd.R_alloc | apply Kd.R_drewN | apply Kd.R_drew)); exact HO408.out⟩, ⟨by (with_reducible repeat (first | refine blk_drewN ?_ _ | refine blk_drew ?_ | refine blk_alloc ?_ _)); exact BK394.out⟩, ⟨by (with_reducible repeat (first | refine blk_drewN ?_ _ | refine blk_drew ?_ | refine blk_alloc ?_ _)); exact BK409.out⟩, ⟨by (with_reducible repeat (first | refine blk_drewN ?_ _ | refine blk_drew ?_ | refine blk_alloc ?_ _)); exact BK420.out⟩, ⟨by (with_reducible repeat (first | refine blk_drewN ?_ _ | refine blk_drew ?_ | refine blk_alloc ?_ _)); exact BK429.out⟩, ⟨by repeat (first | (with_reducible first | exact HB.out | apply below_alloc | apply pw_below_drewN | apply below_drew1 | refine below_set ?_ GE394.out | refine below_set ?_ GE409.out | refine below_set ?_ GE420.out | refine below_set ?_ GE429.out) | exact HB.out)⟩⟩
            ·rw [if_neg c62] at H
             have c62b0 : (t421 == t423) = false := beq_eq_false_iff_ne.mpr c62
             have c62b1 : (t421 != t423) = true := bne_iff_ne.mpr c62
             have H' := Aside0.mk H
             clear H
             as_aux_lemma =>
              go_wp2
              (refine Met.intro ?_; go_step; (repeat (first | apply ex_32 | apply ex_8 | apply Exists.intro)); refine ⟨?rel, rfl⟩)
              case rel => exact ⟨_, (true), (by first | rfl | (simp; done) | (simp [*]; done)), H', ⟨by first | omega | exact Nat.le_refl _⟩, ⟨by (with_reducible repeat (first | apply Kd.R_alloc | apply Kd.R_drewN | apply Kd.R_drew)); exact HO408.out⟩, ⟨by (with_reducible repeat (first | refine blk_drewN ?_ _ | refine blk_drew ?_ | refine blk_alloc ?_ _)); exact BK394.out⟩, ⟨by (with_reducible repeat (first | refine blk_drewN ?_ _ | refine blk_drew ?_ | refine blk_alloc ?_ _)); exact BK409.out⟩, ⟨by (with_reducible repeat (first | refine blk_drewN ?_ _ | refine blk_drew ?_ | refine blk_alloc ?_ _)); exact BK420.out⟩, ⟨by (with_reducible repeat (first | refine blk_drewN ?_ _ | refine blk_drew ?_ | refine blk_alloc ?_ _)); exact BK429.out⟩, ⟨by repeat (first | (with_reducible first | exact HB.out | apply below_alloc | apply pw_below_drewN | apply below_drew1 | refine below_set ?_ GE394.out | refine below_set ?_ GE409.out | refine below_set ?_ GE420.out | refine below_set ?_ GE429.out) | exact HB.out)⟩⟩
          ·rw [if_neg c60] at H
           have c60b0 : (t411 == t414) = false := beq_eq_false_iff_ne.mpr c60
           have c60b1 : (t411 != t414) = true := bne_iff_ne.mpr c60
           have H' := Aside0.mk H
           clear H
           as_aux_lemma =>
            go_wp2
            (refine Met.intro ?_; go_step; (repeat (first | apply ex_32 | apply ex_8 | apply Exists.intro)); refine ⟨?rel, rfl⟩)
            case rel => exact ⟨_, (true), (by first | rfl | (simp; done) | (simp [*]; done)), H', ⟨by first | omega | exact Nat.le_refl _⟩, ⟨by (with_reducible repeat (first | apply Kd.R_alloc | apply Kd.R_drewN | apply Kd.R_drew)); exact HO408.out⟩, ⟨by (with_reducible repeat (first | refine blk_drewN ?_ _ | refine blk_drew ?_ | refine blk_alloc ?_ _)); exact BK394.out⟩, ⟨by (with_reducible repeat (first | refine blk_drewN ?_ _ | refine blk_drew ?_ | refine blk_alloc ?_ _)); exact BK409.out⟩, ⟨by (with_reducible repeat (first | refine blk_drewN ?_ _ | refine blk_drew ?_ | refine blk_alloc ?_ _)); exact BK420.out⟩, ⟨by (with_reducible repeat (first | refine blk_drewN ?_ _ | refine blk_drew ?_ | refine blk_alloc ?_ _)); exact BK429.out⟩, ⟨by repeat (first | (with_reducible first | exact HB.out | apply below_alloc | apply pw_below_drewN | apply below_drew1 | refine below_set ?_ GE394.out | refine below_set ?_ GE409.out | refine below_set ?_ GE420.out | refine below_set ?_ GE429.out) | exact HB.out)⟩⟩
         ·rw [if_neg c59] at H
          have c59b0 : (t410 == t413) = false := beq_eq_false_iff_ne.mpr c59
          have c59b1 : (t410 != t413) = true := bne_iff_ne.mpr c59
          have H' := Aside0.mk H
          clear H
          as_aux_lemma =>
           go_wp2
           (refine Met.intro ?_; go_step; (repeat (first | apply ex_32 | apply ex_8 | apply Exists.intro)); refine ⟨?rel, rfl⟩)
           case rel => exact ⟨_, (true), (by first | rfl | (simp; done) | (simp [*]; done)), H', ⟨by first | omega | exact Nat.le_refl _⟩, ⟨by (with_reducible repeat (first | apply Kd.R_alloc | apply Kd.R_drewN | apply Kd.R_drew)); exact HO408.out⟩, ⟨by (with_reducible repeat (first | refine blk_drewN ?_ _ | refine blk_drew ?_ | refine blk_alloc ?_ _)); exact BK394.out⟩, ⟨by (with_reducible repeat (first | refine blk_drewN ?_ _ | refine blk_drew ?_ | refine blk_alloc ?_ _)); exact BK409.out⟩, ⟨by (with_reducible repeat (first | refine blk_drewN ?_ _ | refine blk_drew ?_ | refine blk_alloc ?_ _)); exact BK420.out⟩, ⟨by (with_reducible repeat (first | refine blk_drewN ?_ _ | refine blk_drew ?_ | refine blk_alloc ?_ _)); exact BK429.out⟩, ⟨by repeat (first | (with_reducible first | exact HB.out | apply below_alloc | apply pw_below_drewN | apply below_drew1 | refine below_set ?_ GE394.out | refine below_set ?_ GE409.out | refine below_set ?_ GE420.out | refine below_set ?_ GE429.out) | exact HB.out)⟩⟩
       ·rw [if_neg c57] at H
        have c57b0 : (t399 == t401) = false := beq_eq_false_iff_ne.mpr c57
        have c57b1 : (t399 != t401) = true := bne_iff_ne.mpr c57
        have H' := Aside0.mk H
        clear H
        as_aux_lemma =>
         go_wp2
         (refine Met.intro ?_; go_step; (repeat (first | apply ex_32 | apply ex_8 | apply Exists.intro)); refine ⟨?rel, rfl⟩)
         case rel => exact ⟨_, (true), (by first | rfl | (simp; done) | (simp [*]; done)), H', ⟨by first | omega | exact Nat.le_refl _⟩, ⟨by (with_reducible repeat (first | apply Kd.R_alloc | apply Kd.R_drewN | apply Kd.R_drew)); exact HO408.out⟩, ⟨by (with_reducible repeat (first | refine blk_drewN ?_ _ | refine blk_drew ?_ | refine blk_alloc ?_ _)); exact BK394.out⟩, ⟨by (with_reducible repeat (first | refine blk_drewN ?_ _ | refine blk_drew ?_ | refine blk_alloc ?_ _)); exact BK409.out⟩, ⟨by (with_reducible repeat (first | refine blk_drewN ?_ _ | refine blk_drew ?_ | refine blk_alloc ?_ _)); exact BK420.out⟩, ⟨by (with_reducible repeat (first | refine blk_drewN ?_ _ | refine blk_drew ?_ | refine blk_alloc ?_ _)); exact BK429.out⟩, ⟨by repeat (first | (with_reducible first | exact HB.out | apply below_alloc | apply pw_below_drewN | apply below_drew1 | refine below_set ?_ GE394.out | refine below_set ?_ GE409.out | refine below_set ?_ GE420.out | refine below_set ?_ GE429.out) | exact HB.out)⟩⟩
     ·rw [if_neg c55] at H
      have c55b0 : (t395 == t397) = false := beq_eq_false_iff_ne.mpr c55
      have c55b1 : (t395 != t397) = true := bne_iff_ne.mpr c55
      have H' := Aside0.mk H
      clear H
      as_aux_lemma =>
       go_wp2
       (refine Met.intro ?_; go_step; (repeat (first | apply ex_32 | apply ex_8 | apply Exists.intro)); refine ⟨?rel, rfl⟩)
       case rel => exact ⟨_, (true), (by first | rfl | (simp; done) | (simp [*]; done)), H', ⟨by first | omega | exact Nat.le_refl _⟩, ⟨by (with_reducible repeat (first | apply Kd.R_alloc | apply Kd.R_drewN | apply Kd.R_drew)); exact HO408.out⟩, ⟨by (with_reducible repeat (first | refine blk_drewN ?_ _ | refine blk_drew ?_ | refine blk_alloc ?_ _)); exact BK394.out⟩, ⟨by (with_reducible repeat (first | refine blk_drewN ?_ _ | refine blk_drew ?_ | refine blk_alloc ?_ _)); exact BK409.out⟩, ⟨by (with_reducible repeat (first | refine blk_drewN ?_ _ | refine blk_drew ?_ | refine blk_alloc ?_ _)); exact BK420.out⟩, ⟨by (with_reducible repeat (first | refine blk_drewN ?_ _ | refine blk_drew ?_ | refine blk_alloc ?_ _)); exact BK429.out⟩, ⟨by repeat (first | (with_reducible first | exact HB.out | apply below_alloc | apply pw_below_drewN | apply below_drew1 | refine below_set ?_ GE394.out | refine below_set ?_ GE409.out | refine below_set ?_ GE420.out | refine below_set ?_ GE429.out) | exact HB.out)⟩⟩
  case rest =>
   as_aux_lemma =>
    clear HC18
    (try clear c1); (try clear p2); (try clear c3); (try clear c3b0); (try clear c4); (try clear c5); (try clear c6); (try clear p6); (try clear c10); (try clear c31); (try clear c39); (try clear c40); (try clear c47); (try clear c48); (try clear c49); (try clear c50); (try clear c51); (try clear c52); (try clear c53); (try clear c54); (try clear c54b0); (try clear c54b1); (try clear c54b2); (try clear c55); (try clear c55b0); (try clear c55b1); (try clear c56); (try clear c56b0); (try clear c56b1); (try clear c56b2); (try clear c57); (try clear c57b0); (try clear c57b1); (try clear c58); (try clear c58b0); (try clear c58b1); (try clear c58b2); (try clear c59); (try clear c59b0); (try clear c59b1); (try clear c60); (try clear c60b0); (try clear c60b1); (try clear c61); (try clear c61b0); (try clear c61b1); (try clear c61b2); (try clear c62); (try clear c62b0); (try clear c62b1); (try clear c63); (try clear c63b0); (try clear c63b1); (try clear c63b2); (try clear c64); (try clear c64b0); (try clear c64b1); (try clear p64); (try clear hcz21_0); (try clear hcz21_1); (try clear hcz21_2); (try clear hcz23_0); (try clear hcz23_1); (try clear hcz23_2); (try clear hcz25_0); (try clear hcz25_1); (try clear hcz25_2); (try clear hcz27_0); (try clear hcz27_1); (try clear hcz27_2); (try clear hcz32_0); (try clear hcz32_1); (try clear hcz32_2); (try clear hcz35_0); (try clear hcz35_1); (try clear hcz35_2); (try clear hcz41_0); (try clear hcz41_1); (try clear hcz41_2); (try clear hcz43_0); (try clear hcz43_1); (try clear hcz43_2); (try clear hcz50_0); (try clear hcz50_1); (try clear hcz50_2); (try clear hcz52_0); (try clear hcz52_1); (try clear hcz52_2); (try clear hfz21_0); (try clear hfz21_1); (try clear hfz21_2); (try clear hfz23_0); (try clear hfz23_1); (try clear hfz23_2); (try clear hfz25_0); (try clear hfz25_1); (try clear hfz25_2); (try clear hfz27_0); (try clear hfz27_1); (try clear hfz27_2); (try clear hfz32_0); (try clear hfz32_1); (try clear hfz32_2); (try clear hfz35_0); (try clear hfz35_1); (try clear hfz35_2); (try clear hfz41_0); (try clear hfz41_1); (try clear hfz41_2); (try clear hfz43_0); (try clear hfz43_1); (try clear hfz43_2); (try clear hfz50_0); (try clear hfz50_1); (try clear hfz50_2); (try clear hfz52_0); (try clear hfz52_1); (try clear hfz52_2)
    obtain ⟨kq, x202_17, rfl, HA, HJ17, HO_16, BK394, BK409, BK420, BK429, HB⟩ := hcut
    cases kq with
    | zero => exact absurd HA.out (by simp [laws_FnSpools.j0])
    | succ kj17 =>
     have H := HA.out
     clear HA
     simp only [laws_FnSpools.j0] at H
     by_cases c65 : x202_17 = true
     ·subst c65
      have H1 : (some false) = some r := by rw [if_pos rfl] at H; exact H
      clear H
      have H := H1
      clear H1
      obtain rfl := Option.some.inj H
      as_aux_lemma =>
       go_wp2
       go_ret
       exact ⟨by first | rfl | (simp [errW_none, errW_some] <;> rfl) | (simp [*, errW_none, errW_some] <;> rfl), by repeat (first | (with_reducible first | exact HB.out | apply below_alloc | apply pw_below_drewN | apply below_drew1 | refine below_set ?_ GE394.out | refine below_set ?_ GE409.out | refine below_set ?_ GE420.out | refine below_set ?_ GE429.out) | exact HB.out)⟩
     ·replace c65 := Bool.eq_false_iff.mpr c65
      subst c65
      have H1 : (if t422 = true then ((impl_SpeedRatio.f kj17 t416 t417 t418 t419).bind fun bt434 => ((impl_TurnLength.f t416 t417 t418 0).bind fun bt437 => (if bt434.2.2 = true then (if bt437.2 = true then (if bt434.2.1 < 1 then (some false) else (if (wrap64 (bt434.1 * bt437.1)) = (wrap64 (t423 * bt434.2.1)) then (laws_FnSpools.j1 kj17 t393 t396 t397 t401 t406 t412 t413 t414 t428 t431 t432 t390 t391 t392 t403 t404 t405 t425 t426 t427) else (some false))) else (some false)) else (some false)))) else (laws_FnSpools.j1 kj17 t393 t396 t397 t401 t406 t412 t413 t414 t428 t431 t432 t390 t391 t392 t403 t404 t405 t425 t426 t427)) = some r := by rw [if_neg (show ¬ (false = true) by decide)] at H; exact H
      clear H
      have H := H1
      clear H1
      have HC66 := Aside0.mk H
      clear H
      go_upto_if 203 with (fail)
      go_cut [] (fun wc => ∃ (kq : Nat), Aside0 (laws_FnSpools.j1 kq t393 t396 t397 t401 t406 t412 t413 t414 t428 t431 t432 t390 t391 t392 t403 t404 t405 t425 t426 t427 = some r) ∧ Aside0 (kq ≤ kj17) ∧ Aside0 (Kd.R (Kd.int .i64) 3 wc w.heap.size (fun _ => True) (.slice Ao33 t406.length co33) t406) ∧ Aside0 (wc.heap[gb394]? = some (.cells #[.int .i64 t390, .int .i64 t391, .int .i64 t392] 64 (0, 0))) ∧ Aside0 (wc.heap[gb409]? = some (.cells #[.int .i64 t403, .int .i64 t404, .int .i64 t405] 64 (0, 0))) ∧ Aside0 (wc.heap[gb420]? = some (.cells #[.int .i64 t416, .int .i64 t417, .int .i64 t418] 64 (0, 0))) ∧ Aside0 (wc.heap[gb429]? = some (.cells #[.int .i64 t425, .int .i64 t426, .int .i64 t427] 64 (0, 0))) ∧ Aside0 (Below w.heap.size w wc))
      case first =>
       as_aux_lemma =>
        have H := HC66.out
        clear HC66
        by_cases c67 : t422 = true
        ·subst c67
         have H1 : ((impl_SpeedRatio.f kj17 t416 t417 t418 t419).bind fun bt434 => ((impl_TurnLength.f t416 t417 t418 0).bind fun bt437 => (if bt434.2.2 = true then (if bt437.2 = true then (if bt434.2.1 < 1 then (some false) else (if (wrap64 (bt434.1 * bt437.1)) = (wrap64 (t423 * bt434.2.1)) then (laws_FnSpools.j1 kj17 t393 t396 t397 t401 t406 t412 t413 t414 t428 t431 t432 t390 t391 t392 t403 t404 t405 t425 t426 t427) else (some false))) else (some false)) else (some false)))) = some r := by rw [if_pos rfl] at H; exact H
         clear H
         have H := H1
         clear H1
         replace H := Option.bind_eq_some_iff.mp H
         obtain ⟨⟨t434, t435, t436⟩, A680, H⟩ := H
         (try dsimp only at H)
         have A68 := Aside0.mk A680
         clear A680
         replace H := Option.bind_eq_some_iff.mp H
         obtain ⟨⟨t437, t438⟩, A690, H⟩ := H
         (try dsimp only at H)
         have A69 := Aside0.mk A690
         clear A690
         by_cases c70 : t436 = true
         ·subst c70
          have H1 : (if t438 = true then (if t435 < 1 then (some false) else (if (wrap64 (t434 * t437)) = (wrap64 (t423 * t435)) then (laws_FnSpools.j1 kj17 t393 t396 t397 t401 t406 t412 t413 t414 t428 t431 t432 t390 t391 t392 t403 t404 t405 t425 t426 t427) else (some false))) else (some false)) = some r := by rw [if_pos rfl] at H; exact H
          clear H
          have H := H1
          clear H1
          by_cases c71 : t438 = true
          ·subst c71
           have H1 : (if t435 < 1 then (some false) else (if (wrap64 (t434 * t437)) = (wrap64 (t423 * t435)) then (laws_FnSpools.j1 kj17 t393 t396 t397 t401 t406 t412 t413 t414 t428 t431 t432 t390 t391 t392 t403 t404 t405 t425 t426 t427) else (some false))) = some r := by rw [if_pos rfl] at H; exact H
           clear H
           have H := H1
           clear H1
           by_cases c72 : t435 < 1
           ·rw [if_pos c72] at H
            have c72b0 : decide (t435 < 1) = true := decide_eq_true c72
            clear c72
            (first | rw [c72b0] | (simp only [i64_w, i32_w]; rw [c72b0]) | skip)
            obtain rfl := Option.some.inj H
            have hnb73 := NB420_394.out
            have hnc73 := NB394_420.out
            have hnb74 := NB420_409.out
            have hnc74 := NB409_420.out
            have hnb75 := NB420_429.out
            have hnc75 := NB429_420.out
            have hcz76_0 : wc.cell? ⟨gb420, 0, none⟩ = some (.int .i64 t416) := (blk_cell BK420.out 0).trans rfl
            have hcz76_1 : wc.cell? ⟨gb420, 1, none⟩ = some (.int .i64 t417) := (blk_cell BK420.out 1).trans rfl
            have hcz76_2 : wc.cell? ⟨gb420, 2, none⟩ = some (.int .i64 t418) := (blk_cell BK420.out 2).trans rfl
            have hfz76_0 := blk_frozen BK420.out 0
            have hfz76_1 := blk_frozen BK420.out 1
            have hfz76_2 := blk_frozen BK420.out 2
            as_aux_lemma =>
             go_wp2_with (first | ((with_reducible refine gate_callee (f := 62) rfl ?_); refine goesL_ (some 207) rfl rfl Try.func62 (by kernel_rfl) rfl #[.agg #[.int .i64 t416, .int .i64 t417, .int .i64 t418], .int .i64 t419] rfl (by (try simp only [List.map_toArray, List.map_cons, List.map_nil]); first | done | rfl | (simp only [List.length_drop, List.length_take]; rfl)) ?_; (with_reducible refine (impl_SpeedRatio.calls kj17 t416 t417 t418 t419 t434 t435 true _ A68.out).mono ?_); rintro e w77 ⟨rfl, hb⟩; refine ⟨_, rfl, ?_⟩; have n0_ := Aside0.mk (Kd.R_below (by (with_reducible repeat (first | apply Kd.R_alloc | apply Kd.R_drewN | apply Kd.R_drew)); exact HO_16.out) hb); have n1_ := Aside0.mk (blk_below (g := gb394) (o := .cells #[.int .i64 t390, .int .i64 t391, .int .i64 t392] 64 (0, 0)) (by (with_reducible repeat (first | refine blk_drewN ?_ _ | refine blk_drew ?_ | refine blk_alloc ?_ _)); exact BK394.out) hb); have n2_ := Aside0.mk (blk_below (g := gb409) (o := .cells #[.int .i64 t403, .int .i64 t404, .int .i64 t405] 64 (0, 0)) (by (with_reducible repeat (first | refine blk_drewN ?_ _ | refine blk_drew ?_ | refine blk_alloc ?_ _)); exact BK409.out) hb); have n3_ := Aside0.mk (blk_below (g := gb420) (o := .cells #[.int .i64 t416, .int .i64 t417, .int .i64 t418] 64 (0, 0)) (by (with_reducible repeat (first | refine blk_drewN ?_ _ | refine blk_drew ?_ | refine blk_alloc ?_ _)); exact BK420.out) hb); have n4_ := Aside0.mk (blk_below (g := gb429) (o := .cells #[.int .i64 t425, .int .i64 t426, .int .i64 t427] 64 (0, 0)) (by (with_reducible repeat (first | refine blk_drewN ?_ _ | refine blk_drew ?_ | refine blk_alloc ?_ _)); exact BK429.out) hb); have n5_ := Aside0.mk (below_step (by repeat (first | (with_reducible first | exact HB.out | apply below_alloc | apply pw_below_drewN | apply below_drew1 | refine below_set ?_ GE394.out | refine below_set ?_ GE409.out | refine below_set ?_ GE420.out | refine below_set ?_ GE429.out) | exact HB.out)) hb); clear HO_16; clear BK394; clear BK409; clear BK420; clear BK429; clear HB; have HO_16 := n0_; have BK394 := n1_; have BK409 := n2_; have BK420 := n3_; have BK429 := n4_; have HB := n5_; clear n0_ n1_ n2_ n3_ n4_ n5_; (try clear hb); (try clear hb2); (try clear hk); (try clear hi); have hcz78_0 : w77.cell? ⟨gb420, 0, none⟩ = some (.int .i64 t416) := (blk_cell BK420.out 0).trans rfl; have hcz78_1 : w77.cell? ⟨gb420, 1, none⟩ = some (.int .i64 t417) := (blk_cell BK420.out 1).trans rfl; have hcz78_2 : w77.cell? ⟨gb420, 2, none⟩ = some (.int .i64 t418) := (blk_cell BK420.out 2).trans rfl; have hfz78_0 := blk_frozen BK420.out 0; have hfz78_1 := blk_frozen BK420.out 1; have hfz78_2 := blk_frozen BK420.out 2) | ((with_reducible refine gate_callee (f := 57) rfl ?_); refine goesL_ (some 213) rfl rfl Try.func57 (by kernel_rfl) rfl #[.agg #[.int .i64 t416, .int .i64 t417, .int .i64 t418], .int .i64 0] rfl (by (try simp only [List.map_toArray, List.map_cons, List.map_nil]); first | done | rfl | (simp only [List.length_drop, List.length_take]; rfl)) ?_; (with_reducible refine (impl_TurnLength.calls t416 t417 t418 0 t437 true _ A69.out).mono ?_); rintro e w79 ⟨rfl, hb⟩; refine ⟨_, rfl, ?_⟩; have n0_ := Aside0.mk (Kd.R_below (by (with_reducible repeat (first | apply Kd.R_alloc | apply Kd.R_drewN | apply Kd.R_drew)); exact HO_16.out) hb); have n1_ := Aside0.mk (blk_below (g := gb394) (o := .cells #[.int .i64 t390, .int .i64 t391, .int .i64 t392] 64 (0, 0)) (by (with_reducible repeat (first | refine blk_drewN ?_ _ | refine blk_drew ?_ | refine blk_alloc ?_ _)); exact BK394.out) hb); have n2_ := Aside0.mk (blk_below (g := gb409) (o := .cells #[.int .i64 t403, .int .i64 t404, .int .i64 t405] 64 (0, 0)) (by (with_reducible repeat (first | refine blk_drewN ?_ _ | refine blk_drew ?_ | refine blk_alloc ?_ _)); exact BK409.out) hb); have n3_ := Aside0.mk (blk_below (g := gb420) (o := .cells #[.int .i64 t416, .int .i64 t417, .int .i64 t418] 64 (0, 0)) (by (with_reducible repeat (first | refine blk_drewN ?_ _ | refine blk_drew ?_ | refine blk_alloc ?_ _)); exact BK420.out) hb); have n4_ := Aside0.mk (blk_below (g := gb429) (o := .cells #[.int .i64 t425, .int .i64 t426, .int .i64 t427] 64 (0, 0)) (by (with_reducible repeat (first | refine blk_drewN ?_ _ | refine blk_drew ?_ | refine blk_alloc ?_ _)); exact BK429.out) hb); have n5_ := Aside0.mk (below_step (by repeat (first | (with_reducible first | exact HB.out | apply below_alloc | apply pw_below_drewN | apply below_drew1 | refine below_set ?_ GE394.out | refine below_set ?_ GE409.out | refine below_set ?_ GE420.out | refine below_set ?_ GE429.out) | exact HB.out)) hb); clear HO_16; clear BK394; clear BK409; clear BK420; clear BK429; clear HB; have HO_16 := n0_; have BK394 := n1_; have BK409 := n2_; have BK420 := n3_; have BK429 := n4_; have HB := n5_; clear n0_ n1_ n2_ n3_ n4_ n5_; (try clear hb); (try clear hb2); (try clear hk); (try clear hi)))
             go_ret
             exact ⟨by first | rfl | (simp [errW_none, errW_some] <;> rfl) | (simp [*, errW_none, errW_some] <;> rfl), by repeat (first | (with_reducible first | exact HB.out | apply below_alloc | apply pw_below_drewN | apply below_drew1 | refine below_set ?_ GE394.out | refine below_set ?_ GE409.out | refine below_set ?_ GE420.out | refine below_set ?_ GE429.out) | exact HB.out)⟩
           ·rw [if_neg c72] at H
            have c72b0 : decide (t435 < 1) = false := decide_eq_false c72
            clear c72
            (first | rw [c72b0] | (simp only [i64_w, i32_w]; rw [c72b0]) | skip)
            by_cases c80 : (wrap64 (t434 * t437)) = (wrap64 (t423 * t435))
            ·rw [if_pos c80] at H
             have c80b0 : ((wrap64 (t434 * t437)) == (wrap64 (t423 * t435))) = true := beq_iff_eq.mpr c80
             have c80b1 : ((wrap64 (t434 * t437)) != (wrap64 (t423 * t435))) = false := bne_eq_false_iff_eq.mpr c80
             clear c80
             have H' := Aside0.mk H
             clear H
             have hnb81 := NB420_394.out
             have hnc81 := NB394_420.out
             have hnb82 := NB420_409.out
             have hnc82 := NB409_420.out
             have hnb83 := NB420_429.out
             have hnc83 := NB429_420.out
             have hcz84_0 : wc.cell? ⟨gb420, 0, none⟩ = some (.int .i64 t416) := (blk_cell BK420.out 0).trans rfl
             have hcz84_1 : wc.cell? ⟨gb420, 1, none⟩ = some (.int .i64 t417) := (blk_cell BK420.out 1).trans rfl
             have hcz84_2 : wc.cell? ⟨gb420, 2, none⟩ = some (.int .i64 t418) := (blk_cell BK420.out 2).trans rfl
             have hfz84_0 := blk_frozen BK420.out 0
             have hfz84_1 := blk_frozen BK420.out 1
             have hfz84_2 := blk_frozen BK420.out 2
             as_aux_lemma =>
              go_wp2_with (first | ((with_reducible refine gate_callee (f := 62) rfl ?_); refine goesL_ (some 207) rfl rfl Try.func62 (by kernel_rfl) rfl #[.agg #[.int .i64 t416, .int .i64 t417, .int .i64 t418], .int .i64 t419] rfl (by (try simp only [List.map_toArray, List.map_cons, List.map_nil]); first | done | rfl | (simp only [List.length_drop, List.length_take]; rfl)) ?_; (with_reducible refine (impl_SpeedRatio.calls kj17 t416 t417 t418 t419 t434 t435 true _ A68.out).mono ?_); rintro e w85 ⟨rfl, hb⟩; refine ⟨_, rfl, ?_⟩; have n0_ := Aside0.mk (Kd.R_below (by (with_reducible repeat (first | apply Kd.R_alloc | apply Kd.R_drewN | apply Kd.R_drew)); exact HO_16.out) hb); have n1_ := Aside0.mk (blk_below (g := gb394) (o := .cells #[.int .i64 t390, .int .i64 t391, .int .i64 t392] 64 (0, 0)) (by (with_reducible repeat (first | refine blk_drewN ?_ _ | refine blk_drew ?_ | refine blk_alloc ?_ _)); exact BK394.out) hb); have n2_ := Aside0.mk (blk_below (g := gb409) (o := .cells #[.int .i64 t403, .int .i64 t404, .int .i64 t405] 64 (0, 0)) (by (with_reducible repeat (first | refine blk_drewN ?_ _ | refine blk_drew ?_ | refine blk_alloc ?_ _)); exact BK409.out) hb); have n3_ := Aside0.mk (blk_below (g := gb420) (o := .cells #[.int .i64 t416, .int .i64 t417, .int .i64 t418] 64 (0, 0)) (by (with_reducible repeat (first | refine blk_drewN ?_ _ | refine blk_drew ?_ | refine blk_alloc ?_ _)); exact BK420.out) hb); have n4_ := Aside0.mk (blk_below (g := gb429) (o := .cells #[.int .i64 t425, .int .i64 t426, .int .i64 t427] 64 (0, 0)) (by (with_reducible repeat (first | refine blk_drewN ?_ _ | refine blk_drew ?_ | refine blk_alloc ?_ _)); exact BK429.out) hb); have n5_ := Aside0.mk (below_step (by repeat (first | (with_reducible first | exact HB.out | apply below_alloc | apply pw_below_drewN | apply below_drew1 | refine below_set ?_ GE394.out | refine below_set ?_ GE409.out | refine below_set ?_ GE420.out | refine below_set ?_ GE429.out) | exact HB.out)) hb); clear HO_16; clear BK394; clear BK409; clear BK420; clear BK429; clear HB; have HO_16 := n0_; have BK394 := n1_; have BK409 := n2_; have BK420 := n3_; have BK429 := n4_; have HB := n5_; clear n0_ n1_ n2_ n3_ n4_ n5_; (try clear hb); (try clear hb2); (try clear hk); (try clear hi); have hcz86_0 : w85.cell? ⟨gb420, 0, none⟩ = some (.int .i64 t416) := (blk_cell BK420.out 0).trans rfl; have hcz86_1 : w85.cell? ⟨gb420, 1, none⟩ = some (.int .i64 t417) := (blk_cell BK420.out 1).trans rfl; have hcz86_2 : w85.cell? ⟨gb420, 2, none⟩ = some (.int .i64 t418) := (blk_cell BK420.out 2).trans rfl; have hfz86_0 := blk_frozen BK420.out 0; have hfz86_1 := blk_frozen BK420.out 1; have hfz86_2 := blk_frozen BK420.out 2) | ((with_reducible refine gate_callee (f := 57) rfl ?_); refine goesL_ (some 213) rfl rfl Try.func57 (by kernel_rfl) rfl #[.agg #[.int .i64 t416, .int .i64 t417, .int .i64 t418], .int .i64 0] rfl (by (try simp only [List.map_toArray, List.map_cons, List.map_nil]); first | done | rfl | (simp only [List.length_drop, List.length_take]; rfl)) ?_; (with_reducible refine (impl_TurnLength.calls t416 t417 t418 0 t437 true _ A69.out).mono ?_); rintro e w87 ⟨rfl, hb⟩; refine ⟨_, rfl, ?_⟩; have n0_ := Aside0.mk (Kd.R_below (by (with_reducible repeat (first | apply Kd.R_alloc | apply Kd.R_drewN | apply Kd.R_drew)); exact HO_16.out) hb); have n1_ := Aside0.mk (blk_below (g := gb394) (o := .cells #[.int .i64 t390, .int .i64 t391, .int .i64 t392] 64 (0, 0)) (by (with_reducible repeat (first | refine blk_drewN ?_ _ | refine blk_drew ?_ | refine blk_alloc ?_ _)); exact BK394.out) hb); have n2_ := Aside0.mk (blk_below (g := gb409) (o := .cells #[.int .i64 t403, .int .i64 t404, .int .i64 t405] 64 (0, 0)) (by (with_reducible repeat (first | refine blk_drewN ?_ _ | refine blk_drew ?_ | refine blk_alloc ?_ _)); exact BK409.out) hb); have n3_ := Aside0.mk (blk_below (g := gb420) (o := .cells #[.int .i64 t416, .int .i64 t417, .int .i64 t418] 64 (0, 0)) (by (with_reducible repeat (first | refine blk_drewN ?_ _ | refine blk_drew ?_ | refine blk_alloc ?_ _)); exact BK420.out) hb); have n4_ := Aside0.mk (blk_below (g := gb429) (o := .cells #[.int .i64 t425, .int .i64 t426, .int .i64 t427] 64 (0, 0)) (by (with_reducible repeat (first | refine blk_drewN ?_ _ | refine blk_drew ?_ | refine blk_alloc ?_ _)); exact BK429.out) hb); have n5_ := Aside0.mk (below_step (by repeat (first | (with_reducible first | exact HB.out | apply below_alloc | apply pw_below_drewN | apply below_drew1 | refine below_set ?_ GE394.out | refine below_set ?_ GE409.out | refine below_set ?_ GE420.out | refine below_set ?_ GE429.out) | exact HB.out)) hb); clear HO_16; clear BK394; clear BK409; clear BK420; clear BK429; clear HB; have HO_16 := n0_; have BK394 := n1_; have BK409 := n2_; have BK420 := n3_; have BK429 := n4_; have HB := n5_; clear n0_ n1_ n2_ n3_ n4_ n5_; (try clear hb); (try clear hb2); (try clear hk); (try clear hi)))
              (refine Met.intro ?_; go_step; (repeat (first | apply ex_32 | apply ex_8 | apply Exists.intro)); refine ⟨?rel, rfl⟩)
              case rel => exact ⟨_, H', ⟨by have := HJ17.out; first | omega | exact Nat.le_refl _⟩, ⟨by (with_reducible repeat (first | apply Kd.R_alloc | apply Kd.R_drewN | apply Kd.R_drew)); exact HO_16.out⟩, ⟨by (with_reducible repeat (first | refine blk_drewN ?_ _ | refine blk_drew ?_ | refine blk_alloc ?_ _)); exact BK394.out⟩, ⟨by (with_reducible repeat (first | refine blk_drewN ?_ _ | refine blk_drew ?_ | refine blk_alloc ?_ _)); exact BK409.out⟩, ⟨by (with_reducible repeat (first | refine blk_drewN ?_ _ | refine blk_drew ?_ | refine blk_alloc ?_ _)); exact BK420.out⟩, ⟨by (with_reducible repeat (first | refine blk_drewN ?_ _ | refine blk_drew ?_ | refine blk_alloc ?_ _)); exact BK429.out⟩, ⟨by repeat (first | (with_reducible first | exact HB.out | apply below_alloc | apply pw_below_drewN | apply below_drew1 | refine below_set ?_ GE394.out | refine below_set ?_ GE409.out | refine below_set ?_ GE420.out | refine below_set ?_ GE429.out) | exact HB.out)⟩⟩
            ·rw [if_neg c80] at H
             have c80b0 : ((wrap64 (t434 * t437)) == (wrap64 (t423 * t435))) = false := beq_eq_false_iff_ne.mpr c80
             have c80b1 : ((wrap64 (t434 * t437)) != (wrap64 (t423 * t435))) = true := bne_iff_ne.mpr c80
             obtain rfl := Option.some.inj H
             have hnb88 := NB420_394.out
             have hnc88 := NB394_420.out
             have hnb89 := NB420_409.out
             have hnc89 := NB409_420.out
             have hnb90 := NB420_429.out
             have hnc90 := NB429_420.out
             have hcz91_0 : wc.cell? ⟨gb420, 0, none⟩ = some (.int .i64 t416) := (blk_cell BK420.out 0).trans rfl
             have hcz91_1 : wc.cell? ⟨gb420, 1, none⟩ = some (.int .i64 t417) := (blk_cell BK420.out 1).trans rfl
             have hcz91_2 : wc.cell? ⟨gb420, 2, none⟩ = some (.int .i64 t418) := (blk_cell BK420.out 2).trans rfl
             have hfz91_0 := blk_frozen BK420.out 0
             have hfz91_1 := blk_frozen BK420.out 1
             have hfz91_2 := blk_frozen BK420.out 2
             as_aux_lemma =>
              go_wp2_with (first | ((with_reducible refine gate_callee (f := 62) rfl ?_); refine goesL_ (some 207) rfl rfl Try.func62 (by kernel_rfl) rfl #[.agg #[.int .i64 t416, .int .i64 t417, .int .i64 t418], .int .i64 t419] rfl (by (try simp only [List.map_toArray, List.map_cons, List.map_nil]); first | done | rfl | (simp only [List.length_drop, List.length_take]; rfl)) ?_; (with_reducible refine (impl_SpeedRatio.calls kj17 t416 t417 t418 t419 t434 t435 true _ A68.out).mono ?_); rintro e w92 ⟨rfl, hb⟩; refine ⟨_, rfl, ?_⟩; have n0_ := Aside0.mk (Kd.R_below (by (with_reducible repeat (first | apply Kd.R_alloc | apply Kd.R_drewN | apply Kd.R_drew)); exact HO_16.out) hb); have n1_ := Aside0.mk (blk_below (g := gb394) (o := .cells #[.int .i64 t390, .int .i64 t391, .int .i64 t392] 64 (0, 0)) (by (with_reducible repeat (first | refine blk_drewN ?_ _ | refine blk_drew ?_ | refine blk_alloc ?_ _)); exact BK394.out) hb); have n2_ := Aside0.mk (blk_below (g := gb409) (o := .cells #[.int .i64 t403, .int .i64 t404, .int .i64 t405] 64 (0, 0)) (by (with_reducible repeat (first | refine blk_drewN ?_ _ | refine blk_drew ?_ | refine blk_alloc ?_ _)); exact BK409.out) hb); have n3_ := Aside0.mk (blk_below (g := gb420) (o := .cells #[.int .i64 t416, .int .i64 t417, .int .i64 t418] 64 (0, 0)) (by (with_reducible repeat (first | refine blk_drewN ?_ _ | refine blk_drew ?_ | refine blk_alloc ?_ _)); exact BK420.out) hb); have n4_ := Aside0.mk (blk_below (g := gb429) (o := .cells #[.int .i64 t425, .int .i64 t426, .int .i64 t427] 64 (0, 0)) (by (with_reducible repeat (first | refine blk_drewN ?_ _ | refine blk_drew ?_ | refine blk_alloc ?_ _)); exact BK429.out) hb); have n5_ := Aside0.mk (below_step (by repeat (first | (with_reducible first | exact HB.out | apply below_alloc | apply pw_below_drewN | apply below_drew1 | refine below_set ?_ GE394.out | refine below_set ?_ GE409.out | refine below_set ?_ GE420.out | refine below_set ?_ GE429.out) | exact HB.out)) hb); clear HO_16; clear BK394; clear BK409; clear BK420; clear BK429; clear HB; have HO_16 := n0_; have BK394 := n1_; have BK409 := n2_; have BK420 := n3_; have BK429 := n4_; have HB := n5_; clear n0_ n1_ n2_ n3_ n4_ n5_; (try clear hb); (try clear hb2); (try clear hk); (try clear hi); have hcz93_0 : w92.cell? ⟨gb420, 0, none⟩ = some (.int .i64 t416) := (blk_cell BK420.out 0).trans rfl; have hcz93_1 : w92.cell? ⟨gb420, 1, none⟩ = some (.int .i64 t417) := (blk_cell BK420.out 1).trans rfl; have hcz93_2 : w92.cell? ⟨gb420, 2, none⟩ = some (.int .i64 t418) := (blk_cell BK420.out 2).trans rfl; have hfz93_0 := blk_frozen BK420.out 0; have hfz93_1 := blk_frozen BK420.out 1; have hfz93_2 := blk_frozen BK420.out 2) | ((with_reducible refine gate_callee (f := 57) rfl ?_); refine goesL_ (some 213) rfl rfl Try.func57 (by kernel_rfl) rfl #[.agg #[.int .i64 t416, .int .i64 t417, .int .i64 t418], .int .i64 0] rfl (by (try simp only [List.map_toArray, List.map_cons, List.map_nil]); first | done | rfl | (simp only [List.length_drop, List.length_take]; rfl)) ?_; (with_reducible refine (impl_TurnLength.calls t416 t417 t418 0 t437 true _ A69.out).mono ?_); rintro e w94 ⟨rfl, hb⟩; refine ⟨_, rfl, ?_⟩; have n0_ := Aside0.mk (Kd.R_below (by (with_reducible repeat (first | apply Kd.R_alloc | apply Kd.R_drewN | apply Kd.R_drew)); exact HO_16.out) hb); have n1_ := Aside0.mk (blk_below (g := gb394) (o := .cells #[.int .i64 t390, .int .i64 t391, .int .i64 t392] 64 (0, 0)) (by (with_reducible repeat (first | refine blk_drewN ?_ _ | refine blk_drew ?_ | refine blk_alloc ?_ _)); exact BK394.out) hb); have n2_ := Aside0.mk (blk_below (g := gb409) (o := .cells #[.int .i64 t403, .int .i64 t404, .int .i64 t405] 64 (0, 0)) (by (with_reducible repeat (first | refine blk_drewN ?_ _ | refine blk_drew ?_ | refine blk_alloc ?_ _)); exact BK409.out) hb); have n3_ := Aside0.mk (blk_below (g := gb420) (o := .cells #[.int .i64 t416, .int .i64 t417, .int .i64 t418] 64 (0, 0)) (by (with_reducible repeat (first | refine blk_drewN ?_ _ | refine blk_drew ?_ | refine blk_alloc ?_ _)); exact BK420.out) hb); have n4_ := Aside0.mk (blk_below (g := gb429) (o := .cells #[.int .i64 t425, .int .i64 t426, .int .i64 t427] 64 (0, 0)) (by (with_reducible repeat (first | refine blk_drewN ?_ _ | refine blk_drew ?_ | refine blk_alloc ?_ _)); exact BK429.out) hb); have n5_ := Aside0.mk (below_step (by repeat (first | (with_reducible first | exact HB.out | apply below_alloc | apply pw_below_drewN | apply below_drew1 | refine below_set ?_ GE394.out | refine below_set ?_ GE409.out | refine below_set ?_ GE420.out | refine below_set ?_ GE429.out) | exact HB.out)) hb); clear HO_16; clear BK394; clear BK409; clear BK420; clear BK429; clear HB; have HO_16 := n0_; have BK394 := n1_; have BK409 := n2_; have BK420 := n3_; have BK429 := n4_; have HB := n5_; clear n0_ n1_ n2_ n3_ n4_ n5_; (try clear hb); (try clear hb2); (try clear hk); (try clear hi)))
              go_ret
              exact ⟨by first | rfl | (simp [errW_none, errW_some] <;> rfl) | (simp [*, errW_none, errW_some] <;> rfl), by repeat (first | (with_reducible first | exact HB.out | apply below_alloc | apply pw_below_drewN | apply below_drew1 | refine below_set ?_ GE394.out | refine below_set ?_ GE409.out | refine below_set ?_ GE420.out | refine below_set ?_ GE429.out) | exact HB.out)⟩
          ·replace c71 := Bool.eq_false_iff.mpr c71
           subst c71
           have H1 : (some false) = some r := by rw [if_neg (show ¬ (false = true) by decide)] at H; exact H
           clear H
           have H := H1
           clear H1
           obtain rfl := Option.some.inj H
           have hnb95 := NB420_394.out
           have hnc95 := NB394_420.out
           have hnb96 := NB420_409.out
           have hnc96 := NB409_420.out
           have hnb97 := NB420_429.out
           have hnc97 := NB429_420.out
           have hcz98_0 : wc.cell? ⟨gb420, 0, none⟩ = some (.int .i64 t416) := (blk_cell BK420.out 0).trans rfl
           have hcz98_1 : wc.cell? ⟨gb420, 1, none⟩ = some (.int .i64 t417) := (blk_cell BK420.out 1).trans rfl
           have hcz98_2 : wc.cell? ⟨gb420, 2, none⟩ = some (.int .i64 t418) := (blk_cell BK420.out 2).trans rfl
           have hfz98_0 := blk_frozen BK420.out 0
           have hfz98_1 := blk_frozen BK420.out 1
           have hfz98_2 := blk_frozen BK420.out 2
           as_aux_lemma =>
            go_wp2_with (first | ((with_reducible refine gate_callee (f := 62) rfl ?_); refine goesL_ (some 207) rfl rfl Try.func62 (by kernel_rfl) rfl #[.agg #[.int .i64 t416, .int .i64 t417, .int .i64 t418], .int .i64 t419] rfl (by (try simp only [List.map_toArray, List.map_cons, List.map_nil]); first | done | rfl | (simp only [List.length_drop, List.length_take]; rfl)) ?_; (with_reducible refine (impl_SpeedRatio.calls kj17 t416 t417 t418 t419 t434 t435 true _ A68.out).mono ?_); rintro e w99 ⟨rfl, hb⟩; refine ⟨_, rfl, ?_⟩; have n0_ := Aside0.mk (Kd.R_below (by (with_reducible repeat (first | apply Kd.R_alloc | apply Kd.R_drewN | apply Kd.R_drew)); exact HO_16.out) hb); have n1_ := Aside0.mk (blk_below (g := gb394) (o := .cells #[.int .i64 t390, .int .i64 t391, .int .i64 t392] 64 (0, 0)) (by (with_reducible repeat (first | refine blk_drewN ?_ _ | refine blk_drew ?_ | refine blk_alloc ?_ _)); exact BK394.out) hb); have n2_ := Aside0.mk (blk_below (g := gb409) (o := .cells #[.int .i64 t403, .int .i64 t404, .int .i64 t405] 64 (0, 0)) (by (with_reducible repeat (first | refine blk_drewN ?_ _ | refine blk_drew ?_ | refine blk_alloc ?_ _)); exact BK409.out) hb); have n3_ := Aside0.mk (blk_below (g := gb420) (o := .cells #[.int .i64 t416, .int .i64 t417, .int .i64 t418] 64 (0, 0)) (by (with_reducible repeat (first | refine blk_drewN ?_ _ | refine blk_drew ?_ | refine blk_alloc ?_ _)); exact BK420.out) hb); have n4_ := Aside0.mk (blk_below (g := gb429) (o := .cells #[.int .i64 t425, .int .i64 t426, .int .i64 t427] 64 (0, 0)) (by (with_reducible repeat (first | refine blk_drewN ?_ _ | refine blk_drew ?_ | refine blk_alloc ?_ _)); exact BK429.out) hb); have n5_ := Aside0.mk (below_step (by repeat (first | (with_reducible first | exact HB.out | apply below_alloc | apply pw_below_drewN | apply below_drew1 | refine below_set ?_ GE394.out | refine below_set ?_ GE409.out | refine below_set ?_ GE420.out | refine below_set ?_ GE429.out) | exact HB.out)) hb); clear HO_16; clear BK394; clear BK409; clear BK420; clear BK429; clear HB; have HO_16 := n0_; have BK394 := n1_; have BK409 := n2_; have BK420 := n3_; have BK429 := n4_; have HB := n5_; clear n0_ n1_ n2_ n3_ n4_ n5_; (try clear hb); (try clear hb2); (try clear hk); (try clear hi); have hcz100_0 : w99.cell? ⟨gb420, 0, none⟩ = some (.int .i64 t416) := (blk_cell BK420.out 0).trans rfl; have hcz100_1 : w99.cell? ⟨gb420, 1, none⟩ = some (.int .i64 t417) := (blk_cell BK420.out 1).trans rfl; have hcz100_2 : w99.cell? ⟨gb420, 2, none⟩ = some (.int .i64 t418) := (blk_cell BK420.out 2).trans rfl; have hfz100_0 := blk_frozen BK420.out 0; have hfz100_1 := blk_frozen BK420.out 1; have hfz100_2 := blk_frozen BK420.out 2) | ((with_reducible refine gate_callee (f := 57) rfl ?_); refine goesL_ (some 213) rfl rfl Try.func57 (by kernel_rfl) rfl #[.agg #[.int .i64 t416, .int .i64 t417, .int .i64 t418], .int .i64 0] rfl (by (try simp only [List.map_toArray, List.map_cons, List.map_nil]); first | done | rfl | (simp only [List.length_drop, List.length_take]; rfl)) ?_; (with_reducible refine (impl_TurnLength.calls t416 t417 t418 0 t437 false _ A69.out).mono ?_); rintro e w101 ⟨rfl, hb⟩; refine ⟨_, rfl, ?_⟩; have n0_ := Aside0.mk (Kd.R_below (by (with_reducible repeat (first | apply Kd.R_alloc | apply Kd.R_drewN | apply Kd.R_drew)); exact HO_16.out) hb); have n1_ := Aside0.mk (blk_below (g := gb394) (o := .cells #[.int .i64 t390, .int .i64 t391, .int .i64 t392] 64 (0, 0)) (by (with_reducible repeat (first | refine blk_drewN ?_ _ | refine blk_drew ?_ | refine blk_alloc ?_ _)); exact BK394.out) hb); have n2_ := Aside0.mk (blk_below (g := gb409) (o := .cells #[.int .i64 t403, .int .i64 t404, .int .i64 t405] 64 (0, 0)) (by (with_reducible repeat (first | refine blk_drewN ?_ _ | refine blk_drew ?_ | refine blk_alloc ?_ _)); exact BK409.out) hb); have n3_ := Aside0.mk (blk_below (g := gb420) (o := .cells #[.int .i64 t416, .int .i64 t417, .int .i64 t418] 64 (0, 0)) (by (with_reducible repeat (first | refine blk_drewN ?_ _ | refine blk_drew ?_ | refine blk_alloc ?_ _)); exact BK420.out) hb); have n4_ := Aside0.mk (blk_below (g := gb429) (o := .cells #[.int .i64 t425, .int .i64 t426, .int .i64 t427] 64 (0, 0)) (by (with_reducible repeat (first | refine blk_drewN ?_ _ | refine blk_drew ?_ | refine blk_alloc ?_ _)); exact BK429.out) hb); have n5_ := Aside0.mk (below_step (by repeat (first | (with_reducible first | exact HB.out | apply below_alloc | apply pw_below_drewN | apply below_drew1 | refine below_set ?_ GE394.out | refine below_set ?_ GE409.out | refine below_set ?_ GE420.out | refine below_set ?_ GE429.out) | exact HB.out)) hb); clear HO_16; clear BK394; clear BK409; clear BK420; clear BK429; clear HB; have HO_16 := n0_; have BK394 := n1_; have BK409 := n2_; have BK420 := n3_; have BK429 := n4_; have HB := n5_; clear n0_ n1_ n2_ n3_ n4_ n5_; (try clear hb); (try clear hb2); (try clear hk); (try clear hi)))
            go_ret
            exact ⟨by first | rfl | (simp [errW_none, errW_some] <;> rfl) | (simp [*, errW_none, errW_some] <;> rfl), by repeat (first | (with_reducible first | exact HB.out | apply below_alloc | apply pw_below_drewN | apply below_drew1 | refine below_set ?_ GE394.out | refine below_set ?_ GE409.out | refine below_set ?_ GE420.out | refine below_set ?_ GE429.out) | exact HB.out)⟩
         ·replace c70 := Bool.eq_false_iff.mpr c70
          subst c70
          have H1 : (some false) = some r := by rw [if_neg (show ¬ (false = true) by decide)] at H; exact H
          clear H
          have H := H1
          clear H1
          obtain rfl := Option.some.inj H
          have hnb102 := NB420_394.out
          have hnc102 := NB394_420.out
          have hnb103 := NB420_409.out
          have hnc103 := NB409_420.out
          have hnb104 := NB420_429.out
          have hnc104 := NB429_420.out
          have hcz105_0 : wc.cell? ⟨gb420, 0, none⟩ = some (.int .i64 t416) := (blk_cell BK420.out 0).trans rfl
          have hcz105_1 : wc.cell? ⟨gb420, 1, none⟩ = some (.int .i64 t417) := (blk_cell BK420.out 1).trans rfl
          have hcz105_2 : wc.cell? ⟨gb420, 2, none⟩ = some (.int .i64 t418) := (blk_cell BK420.out 2).trans rfl
          have hfz105_0 := blk_frozen BK420.out 0
          have hfz105_1 := blk_frozen BK420.out 1
          have hfz105_2 := blk_frozen BK420.out 2
          as_aux_lemma =>
           go_wp2_with (first | ((with_reducible refine gate_callee (f := 62) rfl ?_); refine goesL_ (some 207) rfl rfl Try.func62 (by kernel_rfl) rfl #[.agg #[.int .i64 t416, .int .i64 t417, .int .i64 t418], .int .i64 t419] rfl (by (try simp only [List.map_toArray, List.map_cons, List.map_nil]); first | done | rfl | (simp only [List.length_drop, List.length_take]; rfl)) ?_; (with_reducible refine (impl_SpeedRatio.calls kj17 t416 t417 t418 t419 t434 t435 false _ A68.out).mono ?_); rintro e w106 ⟨rfl, hb⟩; refine ⟨_, rfl, ?_⟩; have n0_ := Aside0.mk (Kd.R_below (by (with_reducible repeat (first | apply Kd.R_alloc | apply Kd.R_drewN | apply Kd.R_drew)); exact HO_16.out) hb); have n1_ := Aside0.mk (blk_below (g := gb394) (o := .cells #[.int .i64 t390, .int .i64 t391, .int .i64 t392] 64 (0, 0)) (by (with_reducible repeat (first | refine blk_drewN ?_ _ | refine blk_drew ?_ | refine blk_alloc ?_ _)); exact BK394.out) hb); have n2_ := Aside0.mk (blk_below (g := gb409) (o := .cells #[.int .i64 t403, .int .i64 t404, .int .i64 t405] 64 (0, 0)) (by (with_reducible repeat (first | refine blk_drewN ?_ _ | refine blk_drew ?_ | refine blk_alloc ?_ _)); exact BK409.out) hb); have n3_ := Aside0.mk (blk_below (g := gb420) (o := .cells #[.int .i64 t416, .int .i64 t417, .int .i64 t418] 64 (0, 0)) (by (with_reducible repeat (first | refine blk_drewN ?_ _ | refine blk_drew ?_ | refine blk_alloc ?_ _)); exact BK420.out) hb); have n4_ := Aside0.mk (blk_below (g := gb429) (o := .cells #[.int .i64 t425, .int .i64 t426, .int .i64 t427] 64 (0, 0)) (by (with_reducible repeat (first | refine blk_drewN ?_ _ | refine blk_drew ?_ | refine blk_alloc ?_ _)); exact BK429.out) hb); have n5_ := Aside0.mk (below_step (by repeat (first | (with_reducible first | exact HB.out | apply below_alloc | apply pw_below_drewN | apply below_drew1 | refine below_set ?_ GE394.out | refine below_set ?_ GE409.out | refine below_set ?_ GE420.out | refine below_set ?_ GE429.out) | exact HB.out)) hb); clear HO_16; clear BK394; clear BK409; clear BK420; clear BK429; clear HB; have HO_16 := n0_; have BK394 := n1_; have BK409 := n2_; have BK420 := n3_; have BK429 := n4_; have HB := n5_; clear n0_ n1_ n2_ n3_ n4_ n5_; (try clear hb); (try clear hb2); (try clear hk); (try clear hi); have hcz107_0 : w106.cell? ⟨gb420, 0, none⟩ = some (.int .i64 t416) := (blk_cell BK420.out 0).trans rfl; have hcz107_1 : w106.cell? ⟨gb420, 1, none⟩ = some (.int .i64 t417) := (blk_cell BK420.out 1).trans rfl; have hcz107_2 : w106.cell? ⟨gb420, 2, none⟩ = some (.int .i64 t418) := (blk_cell BK420.out 2).trans rfl; have hfz107_0 := blk_frozen BK420.out 0; have hfz107_1 := blk_frozen BK420.out 1; have hfz107_2 := blk_frozen BK420.out 2) | ((with_reducible refine gate_callee (f := 57) rfl ?_); refine goesL_ (some 213) rfl rfl Try.func57 (by kernel_rfl) rfl #[.agg #[.int .i64 t416, .int .i64 t417, .int .i64 t418], .int .i64 0] rfl (by (try simp only [List.map_toArray, List.map_cons, List.map_nil]); first | done | rfl | (simp only [List.length_drop, List.length_take]; rfl)) ?_; (with_reducible refine (impl_TurnLength.calls t416 t417 t418 0 t437 t438 _ A69.out).mono ?_); rintro e w108 ⟨rfl, hb⟩; refine ⟨_, rfl, ?_⟩; have n0_ := Aside0.mk (Kd.R_below (by (with_reducible repeat (first | apply Kd.R_alloc | apply Kd.R_drewN | apply Kd.R_drew)); exact HO_16.out) hb); have n1_ := Aside0.mk (blk_below (g := gb394) (o := .cells #[.int .i64 t390, .int .i64 t391, .int .i64 t392] 64 (0, 0)) (by (with_reducible repeat (first | refine blk_drewN ?_ _ | refine blk_drew ?_ | refine blk_alloc ?_ _)); exact BK394.out) hb); have n2_ := Aside0.mk (blk_below (g := gb409) (o := .cells #[.int .i64 t403, .int .i64 t404, .int .i64 t405] 64 (0, 0)) (by (with_reducible repeat (first | refine blk_drewN ?_ _ | refine blk_drew ?_ | refine blk_alloc ?_ _)); exact BK409.out) hb); have n3_ := Aside0.mk (blk_below (g := gb420) (o := .cells #[.int .i64 t416, .int .i64 t417, .int .i64 t418] 64 (0, 0)) (by (with_reducible repeat (first | refine blk_drewN ?_ _ | refine blk_drew ?_ | refine blk_alloc ?_ _)); exact BK420.out) hb); have n4_ := Aside0.mk (blk_below (g := gb429) (o := .cells #[.int .i64 t425, .int .i64 t426, .int .i64 t427] 64 (0, 0)) (by (with_reducible repeat (first | refine blk_drewN ?_ _ | refine blk_drew ?_ | refine blk_alloc ?_ _)); exact BK429.out) hb); have n5_ := Aside0.mk (below_step (by repeat (first | (with_reducible first | exact HB.out | apply below_alloc | apply pw_below_drewN | apply below_drew1 | refine below_set ?_ GE394.out | refine below_set ?_ GE409.out | refine below_set ?_ GE420.out | refine below_set ?_ GE429.out) | exact HB.out)) hb); clear HO_16; clear BK394; clear BK409; clear BK420; clear BK429; clear HB; have HO_16 := n0_; have BK394 := n1_; have BK409 := n2_; have BK420 := n3_; have BK429 := n4_; have HB := n5_; clear n0_ n1_ n2_ n3_ n4_ n5_; (try clear hb); (try clear hb2); (try clear hk); (try clear hi)))
           go_ret
           exact ⟨by first | rfl | (simp [errW_none, errW_some] <;> rfl) | (simp [*, errW_none, errW_some] <;> rfl), by repeat (first | (with_reducible first | exact HB.out | apply below_alloc | apply pw_below_drewN | apply below_drew1 | refine below_set ?_ GE394.out | refine below_set ?_ GE409.out | refine below_set ?_ GE420.out | refine below_set ?_ GE429.out) | exact HB.out)⟩
        ·replace c67 := Bool.eq_false_iff.mpr c67
         subst c67
         have H1 : (laws_FnSpools.j1 kj17 t393 t396 t397 t401 t406 t412 t413 t414 t428 t431 t432 t390 t391 t392 t403 t404 t405 t425 t426 t427) = some r := by rw [if_neg (show ¬ (false = true) by decide)] at H; exact H
         clear H
         have H := H1
         clear H1
         have H' := Aside0.mk H
         clear H
         as_aux_lemma =>
          go_wp2
          (refine Met.intro ?_; go_step; (repeat (first | apply ex_32 | apply ex_8 | apply Exists.intro)); refine ⟨?rel, rfl⟩)
          case rel => exact ⟨_, H', ⟨by have := HJ17.out; first | omega | exact Nat.le_refl _⟩, ⟨by (with_reducible repeat (first | apply Kd.R_alloc | apply Kd.R_drewN | apply Kd.R_drew)); exact HO_16.out⟩, ⟨by (with_reducible repeat (first | refine blk_drewN ?_ _ | refine blk_drew ?_ | refine blk_alloc ?_ _)); exact BK394.out⟩, ⟨by (with_reducible repeat (first | refine blk_drewN ?_ _ | refine blk_drew ?_ | refine blk_alloc ?_ _)); exact BK409.out⟩, ⟨by (with_reducible repeat (first | refine blk_drewN ?_ _ | refine blk_drew ?_ | refine blk_alloc ?_ _)); exact BK420.out⟩, ⟨by (with_reducible repeat (first | refine blk_drewN ?_ _ | refine blk_drew ?_ | refine blk_alloc ?_ _)); exact BK429.out⟩, ⟨by repeat (first | (with_reducible first | exact HB.out | apply below_alloc | apply pw_below_drewN | apply below_drew1 | refine below_set ?_ GE394.out | refine below_set ?_ GE409.out | refine below_set ?_ GE420.out | refine below_set ?_ GE429.out) | exact HB.out)⟩⟩
      case rest =>
       as_aux_lemma =>
        clear HC66
        (try clear c7); (try clear c8); (try clear c9); (try clear c65); (try clear c67); (try clear c70); (try clear c71); (try clear c72); (try clear c72b0); (try clear c73); (try clear c74); (try clear c75); (try clear c80); (try clear c80b0); (try clear c80b1); (try clear c81); (try clear c82); (try clear c83); (try clear c88); (try clear c89); (try clear c90); (try clear c95); (try clear c96); (try clear c97); (try clear c102); (try clear c103); (try clear c104); (try clear hcz100_0); (try clear hcz100_1); (try clear hcz100_2); (try clear hcz105_0); (try clear hcz105_1); (try clear hcz105_2); (try clear hcz107_0); (try clear hcz107_1); (try clear hcz107_2); (try clear hcz76_0); (try clear hcz76_1); (try clear hcz76_2); (try clear hcz78_0); (try clear hcz78_1); (try clear hcz78_2); (try clear hcz84_0); (try clear hcz84_1); (try clear hcz84_2); (try clear hcz86_0); (try clear hcz86_1); (try clear hcz86_2); (try clear hcz91_0); (try clear hcz91_1); (try clear hcz91_2); (try clear hcz93_0); (try clear hcz93_1); (try clear hcz93_2); (try clear hcz98_0); (try clear hcz98_1); (try clear hcz98_2); (try clear hfz100_0); (try clear hfz100_1); (try clear hfz100_2); (try clear hfz105_0); (try clear hfz105_1); (try clear hfz105_2); (try clear hfz107_0); (try clear hfz107_1); (try clear hfz107_2); (try clear hfz76_0); (try clear hfz76_1); (try clear hfz76_2); (try clear hfz78_0); (try clear hfz78_1); (try clear hfz78_2); (try clear hfz84_0); (try clear hfz84_1); (try clear hfz84_2); (try clear hfz86_0); (try clear hfz86_1); (try clear hfz86_2); (try clear hfz91_0); (try clear hfz91_1); (try clear hfz91_2); (try clear hfz93_0); (try clear hfz93_1); (try clear hfz93_2); (try clear hfz98_0); (try clear hfz98_1); (try clear hfz98_2)
        obtain ⟨kq, HA, HJ65, HO_16, BK394, BK409, BK420, BK429, HB⟩ := hcut
        cases kq with
        | zero => exact absurd HA.out (by simp [laws_FnSpools.j1])
        | succ kj65 =>
         have H := HA.out
         clear HA
         simp only [laws_FnSpools.j1] at H
         have HC109 := Aside0.mk H
         clear H
         go_upto_if 235 with (fail)
         go_cut [] (fun wc => ∃ (kq : Nat), Aside0 (laws_FnSpools.j3 kq t393 t396 t397 t401 t428 t431 t432 t390 t391 t392 t425 t426 t427 = some r) ∧ Aside0 (kq ≤ kj65) ∧ Aside0 (wc.heap[gb394]? = some (.cells #[.int .i64 t390, .int .i64 t391, .int .i64 t392] 64 (0, 0))) ∧ Aside0 (wc.heap[gb409]? = some (.cells #[.int .i64 t403, .int .i64 t404, .int .i64 t405] 64 (0, 0))) ∧ Aside0 (wc.heap[gb420]? = some (.cells #[.int .i64 t416, .int .i64 t417, .int .i64 t418] 64 (0, 0))) ∧ Aside0 (wc.heap[gb429]? = some (.cells #[.int .i64 t425, .int .i64 t426, .int .i64 t427] 64 (0, 0))) ∧ Aside0 (Below w.heap.size w wc))
         case first =>
          as_aux_lemma =>
           have H := HC109.out
           clear HC109
           by_cases c110 : t412 = true
           ·subst c110
            have H1 : ((impl_LengthOf.f t403 t404 t405).bind fun bt439 => ((spec_LengthOf.f t403 t404 t405).bind fun bt441 => (if 0 ≤ t413 then (if t413 ≤ (t406.length : Int) then ((some (t406.take (t413 : Int).toNat : List Int)).bind fun y443 => (laws_FnSpools.l0 kj65 t393 t396 t397 t401 t406 t413 t414 t428 t431 t432 bt439.1 bt439.2 bt441.1 bt441.2 0 y443 (y443.length : Int) 0 t390 t391 t392 t425 t426 t427)) else (none)) else (none)))) = some r := by rw [if_pos rfl] at H; exact H
            clear H
            have H := H1
            clear H1
            replace H := Option.bind_eq_some_iff.mp H
            obtain ⟨⟨t439, t440⟩, A1110, H⟩ := H
            (try dsimp only at H)
            have A111 := Aside0.mk A1110
            clear A1110
            replace H := Option.bind_eq_some_iff.mp H
            obtain ⟨⟨t441, t442⟩, A1120, H⟩ := H
            (try dsimp only at H)
            have A112 := Aside0.mk A1120
            clear A1120
            by_cases c113 : 0 ≤ t413
            ·rw [if_pos c113] at H
             have c113b0 := eq_true c113
             have c113b1 : decide (0 ≤ t413) = true := decide_eq_true c113
             clear c113
             by_cases c114 : t413 ≤ (t406.length : Int)
             ·rw [if_pos c114] at H
              have c114b0 := eq_true c114
              have c114b1 : decide (t413 ≤ (t406.length : Int)) = true := decide_eq_true c114
              clear c114
              obtain ⟨y443, hy443⟩ : ∃ y_ : List Int, y_ = (t406.take (t413 : Int).toNat) := ⟨_, rfl⟩
              replace H : (laws_FnSpools.l0 kj65 t393 t396 t397 t401 t406 t413 t414 t428 t431 t432 t439 t440 t441 t442 0 y443 (y443.length : Int) 0 t390 t391 t392 t425 t426 t427) = some r := by first | (rw [hy443]; with_reducible exact H) | (have H2_ := (Option.bind_some _ _).symm.trans H; rw [hy443]; with_reducible exact H2_) | (have H2_ := (Option.bind_some _ _).symm.trans H; with_reducible exact H2_) | with_reducible exact H | (rw [hy443]; exact H) | exact H
              have Ny443 := Aside0.mk hy443
              clear hy443
              have H' := Aside0.mk H
              clear H
              have hnb115 := NB409_394.out
              have hnc115 := NB394_409.out
              have hnb116 := NB409_420.out
              have hnc116 := NB420_409.out
              have hnb117 := NB409_429.out
              have hnc117 := NB429_409.out
              have hcz118_0 : wc.cell? ⟨gb409, 0, none⟩ = some (.int .i64 t403) := (blk_cell BK409.out 0).trans rfl
              have hcz118_1 : wc.cell? ⟨gb409, 1, none⟩ = some (.int .i64 t404) := (blk_cell BK409.out 1).trans rfl
              have hcz118_2 : wc.cell? ⟨gb409, 2, none⟩ = some (.int .i64 t405) := (blk_cell BK409.out 2).trans rfl
              have hfz118_0 := blk_frozen BK409.out 0
              have hfz118_1 := blk_frozen BK409.out 1
              have hfz118_2 := blk_frozen BK409.out 2
              go_wp2_with (first | ((with_reducible refine gate_callee (f := 63) rfl ?_); refine goesL_ (some 238) rfl rfl Try.func63 (by kernel_rfl) rfl #[.agg #[.int .i64 t403, .int .i64 t404, .int .i64 t405]] rfl (by (try simp only [List.map_toArray, List.map_cons, List.map_nil]); first | done | rfl | (simp only [List.length_drop, List.length_take]; rfl)) ?_; (with_reducible refine (impl_LengthOf.calls t403 t404 t405 t439 t440 _ A111.out).mono ?_); rintro e w119 ⟨rfl, hb⟩; refine ⟨_, rfl, ?_⟩; have n0_ := Aside0.mk (Kd.R_below (by (with_reducible repeat (first | apply Kd.R_alloc | apply Kd.R_drewN | apply Kd.R_drew)); exact HO_16.out) hb); have n1_ := Aside0.mk (blk_below (g := gb394) (o := .cells #[.int .i64 t390, .int .i64 t391, .int .i64 t392] 64 (0, 0)) (by (with_reducible repeat (first | refine blk_drewN ?_ _ | refine blk_drew ?_ | refine blk_alloc ?_ _)); exact BK394.out) hb); have n2_ := Aside0.mk (blk_below (g := gb409) (o := .cells #[.int .i64 t403, .int .i64 t404, .int .i64 t405] 64 (0, 0)) (by (with_reducible repeat (first | refine blk_drewN ?_ _ | refine blk_drew ?_ | refine blk_alloc ?_ _)); exact BK409.out) hb); have n3_ := Aside0.mk (blk_below (g := gb420) (o := .cells #[.int .i64 t416, .int .i64 t417, .int .i64 t418] 64 (0, 0)) (by (with_reducible repeat (first | refine blk_drewN ?_ _ | refine blk_drew ?_ | refine blk_alloc ?_ _)); exact BK420.out) hb); have n4_ := Aside0.mk (blk_below (g := gb429) (o := .cells #[.int .i64 t425, .int .i64 t426, .int .i64 t427] 64 (0, 0)) (by (with_reducible repeat (first | refine blk_drewN ?_ _ | refine blk_drew ?_ | refine blk_alloc ?_ _)); exact BK429.out) hb); have n5_ := Aside0.mk (below_step (by repeat (first | (with_reducible first | exact HB.out | apply below_alloc | apply pw_below_drewN | apply below_drew1 | refine below_set ?_ GE394.out | refine below_set ?_ GE409.out | refine below_set ?_ GE420.out | refine below_set ?_ GE429.out) | exact HB.out)) hb); clear HO_16; clear BK394; clear BK409; clear BK420; clear BK429; clear HB; have HO_16 := n0_; have BK394 := n1_; have BK409 := n2_; have BK420 := n3_; have BK429 := n4_; have HB := n5_; clear n0_ n1_ n2_ n3_ n4_ n5_; (try clear hb); (try clear hb2); (try clear hk); (try clear hi); have hcz120_0 : w119.cell? ⟨gb409, 0, none⟩ = some (.int .i64 t403) := (blk_cell BK409.out 0).trans rfl; have hcz120_1 : w119.cell? ⟨gb409, 1, none⟩ = some (.int .i64 t404) := (blk_cell BK409.out 1).trans rfl; have hcz120_2 : w119.cell? ⟨gb409, 2, none⟩ = some (.int .i64 t405) := (blk_cell BK409.out 2).trans rfl; have hfz120_0 := blk_frozen BK409.out 0; have hfz120_1 := blk_frozen BK409.out 1; have hfz120_2 := blk_frozen BK409.out 2) | ((with_reducible refine gate_callee (f := 64) rfl ?_); refine goesL_ (some 243) rfl rfl Try.func64 (by kernel_rfl) rfl #[.agg #[.int .i64 t403, .int .i64 t404, .int .i64 t405]] rfl (by (try simp only [List.map_toArray, List.map_cons, List.map_nil]); first | done | rfl | (simp only [List.length_drop, List.length_take]; rfl)) ?_; (with_reducible refine (spec_LengthOf.calls t403 t404 t405 t441 t442 _ A112.out).mono ?_); rintro e w121 ⟨rfl, hb⟩; refine ⟨_, rfl, ?_⟩; have n0_ := Aside0.mk (Kd.R_below (by (with_reducible repeat (first | apply Kd.R_alloc | apply Kd.R_drewN | apply Kd.R_drew)); exact HO_16.out) hb); have n1_ := Aside0.mk (blk_below (g := gb394) (o := .cells #[.int .i64 t390, .int .i64 t391, .int .i64 t392] 64 (0, 0)) (by (with_reducible repeat (first | refine blk_drewN ?_ _ | refine blk_drew ?_ | refine blk_alloc ?_ _)); exact BK394.out) hb); have n2_ := Aside0.mk (blk_below (g := gb409) (o := .cells #[.int .i64 t403, .int .i64 t404, .int .i64 t405] 64 (0, 0)) (by (with_reducible repeat (first | refine blk_drewN ?_ _ | refine blk_drew ?_ | refine blk_alloc ?_ _)); exact BK409.out) hb); have n3_ := Aside0.mk (blk_below (g := gb420) (o := .cells #[.int .i64 t416, .int .i64 t417, .int .i64 t418] 64 (0, 0)) (by (with_reducible repeat (first | refine blk_drewN ?_ _ | refine blk_drew ?_ | refine blk_alloc ?_ _)); exact BK420.out) hb); have n4_ := Aside0.mk (blk_below (g := gb429) (o := .cells #[.int .i64 t425, .int .i64 t426, .int .i64 t427] 64 (0, 0)) (by (with_reducible repeat (first | refine blk_drewN ?_ _ | refine blk_drew ?_ | refine blk_alloc ?_ _)); exact BK429.out) hb); have n5_ := Aside0.mk (below_step (by repeat (first | (with_reducible first | exact HB.out | apply below_alloc | apply pw_below_drewN | apply below_drew1 | refine below_set ?_ GE394.out | refine below_set ?_ GE409.out | refine below_set ?_ GE420.out | refine below_set ?_ GE429.out) | exact HB.out)) hb); clear HO_16; clear BK394; clear BK409; clear BK420; clear BK429; clear HB; have HO_16 := n0_; have BK394 := n1_; have BK409 := n2_; have BK420 := n3_; have BK429 := n4_; have HB := n5_; clear n0_ n1_ n2_ n3_ n4_ n5_; (try clear hb); (try clear hb2); (try clear hk); (try clear hi); have q122 : (t413 : Int) ≤ ((t406.length : Int) : Int) := of_decide_eq_true (by first | (with_reducible assumption) | assumption); obtain ⟨i0122, hi0122, _, hsz122, _⟩ := info_parts info3; have hroom122 : t406.length ≤ co33 := (Kd.R_reads' HO_16.out).2.1; have hC122 : Kd.C (Kd.int .i64) _ Ao33 t406.length t406 := (Kd.R_reads' HO_16.out).2.2; have hcut122 := cut_to (P := Try.prog) 23 3 .i64 Try.underlying23 hi0122 Ao33 t406.length co33 t413 (of_decide_eq_true (by first | (with_reducible assumption) | assumption)) q122 hroom122; have hr122 := Kd.C_take (m := (t413 : Int).toNat) hC122 (by omega); have hy122 : y443.length = (t413 : Int).toNat := (by rw [Ny443.out, List.length_take]; omega); rw [← Ny443.out] at hr122; rw [← hy122] at hcut122; have HR446 := Aside0.mk hr122; have HC446 := Aside0.mk (show y443.length ≤ co33 from by omega); clear hr122 hC122 hroom122 hi0122 hsz122; have KY122 := Aside0.mk hy122; clear hy122; have KL122 := Aside0.mk (show (t413 : Int).toNat ≤ t406.length from by omega); replace q122 := eq_true q122))
              go_loopg [44, 250] kj65 (fun kq v44 v250 w' => ∃ (x44_3 : Int) (x250_3 : Int), v44 = .int .i64 x44_3 ∧ v250 = .int .i64 x250_3 ∧ Aside0 (laws_FnSpools.l0 kq t393 t396 t397 t401 t406 t413 t414 t428 t431 t432 t439 t440 t441 t442 x44_3 y443 (y443.length : Int) x250_3 t390 t391 t392 t425 t426 t427 = some r) ∧ Aside0 (kq ≤ kj65) ∧ Aside0 (Kd.R (Kd.int .i64) 3 w' w.heap.size (fun _ => True) (.slice Ao33 t406.length co33) t406) ∧ Aside0 (w'.heap[gb394]? = some (.cells #[.int .i64 t390, .int .i64 t391, .int .i64 t392] 64 (0, 0))) ∧ Aside0 (w'.heap[gb409]? = some (.cells #[.int .i64 t403, .int .i64 t404, .int .i64 t405] 64 (0, 0))) ∧ Aside0 (w'.heap[gb420]? = some (.cells #[.int .i64 t416, .int .i64 t417, .int .i64 t418] 64 (0, 0))) ∧ Aside0 (w'.heap[gb429]? = some (.cells #[.int .i64 t425, .int .i64 t426, .int .i64 t427] 64 (0, 0))) ∧ Aside0 (Kd.C (Kd.int .i64) w' Ao33 y443.length y443) ∧ Aside0 (Below w.heap.size w w'))
              case atStart => exact ⟨(0), (0), (by first | rfl | (simp; done) | (simp [*]; done)), (by first | rfl | (simp; done) | (simp [*]; done)), H', ⟨Nat.le_refl _⟩, ⟨by (with_reducible repeat (first | apply Kd.R_alloc | apply Kd.R_drewN | apply Kd.R_drew)); exact HO_16.out⟩, ⟨by (with_reducible repeat (first | refine blk_drewN ?_ _ | refine blk_drew ?_ | refine blk_alloc ?_ _)); exact BK394.out⟩, ⟨by (with_reducible repeat (first | refine blk_drewN ?_ _ | refine blk_drew ?_ | refine blk_alloc ?_ _)); exact BK409.out⟩, ⟨by (with_reducible repeat (first | refine blk_drewN ?_ _ | refine blk_drew ?_ | refine blk_alloc ?_ _)); exact BK420.out⟩, ⟨by (with_reducible repeat (first | refine blk_drewN ?_ _ | refine blk_drew ?_ | refine blk_alloc ?_ _)); exact BK429.out⟩, ⟨by repeat (first | (with_reducible exact HR446.out) | (with_reducible refine Kd.C_alloc ?_ _) | (with_reducible refine Kd.C_drewN ?_ _) | (with_reducible refine Kd.C_drew ?_) | exact HR446.out)⟩, ⟨by repeat (first | (with_reducible first | exact HB.out | apply below_alloc | apply pw_below_drewN | apply below_drew1 | refine below_set ?_ GE394.out | refine below_set ?_ GE409.out | refine below_set ?_ GE420.out | refine below_set ?_ GE429.out) | exact HB.out)⟩⟩
              case round =>
               as_aux_lemma =>
                clear H'
                (try clear q1); (try clear c11); (try clear q12); (try clear c110); (try clear c113); (try clear c113b0); (try clear c113b1); (try clear c114); (try clear c114b0); (try clear c114b1); (try clear c115); (try clear c116); (try clear c117); (try clear q122); (try clear hcz118_0); (try clear hcz118_1); (try clear hcz118_2); (try clear hcz120_0); (try clear hcz120_1); (try clear hcz120_2); (try clear hfz118_0); (try clear hfz118_1); (try clear hfz118_2); (try clear hfz120_0); (try clear hfz120_1); (try clear hfz120_2)
                obtain ⟨x44_3, x250_3, rfl, rfl, HA, HK3, HO_16, BK394, BK409, BK420, BK429, HR446, HB⟩ := hrel
                cases gk with
                | zero => exact absurd HA.out (by simp [laws_FnSpools.l0])
                | succ k3 =>
                 have H := HA.out
                 clear HA
                 simp only [laws_FnSpools.l0] at H
                 by_cases c123 : x250_3 < (y443.length : Int)
                 ·rw [if_pos c123] at H
                  have c123b0 : decide (x250_3 < (y443.length : Int)) = true := decide_eq_true c123
                  clear c123
                  (first | rw [c123b0] | (simp only [i64_w, i32_w]; rw [c123b0]) | skip)
                  by_cases c124 : 0 ≤ x250_3
                  ·rw [if_pos c124] at H
                   have c124b0 : decide (0 ≤ x250_3) = true := decide_eq_true c124
                   clear c124
                   by_cases c125 : x250_3 < (y443.length : Int)
                   ·rw [if_pos c125] at H
                    have c125b0 : decide (x250_3 < (y443.length : Int)) = true := decide_eq_true c125
                    clear c125
                    have H' := Aside0.mk H
                    clear H
                    have p447 : 0 ≤ (x250_3 : Int) := of_decide_eq_true (by first | (with_reducible assumption) | assumption)
                    have q447 : x250_3 < (y443.length : Int) := of_decide_eq_true (by first | (with_reducible assumption) | assumption)
                    obtain ⟨ad447, e447, hx447_0⟩ := Kd.at_int HR446.out x250_3 p447 q447
                    cases e447
                    replace p447 := eq_true p447
                    replace q447 := eq_true q447
                    as_aux_lemma =>
                     go_wp2
                     go_roundg k3
                     case measure => have := HJ17.out; have := HJ65.out; have := HK3.out; omega
                     case rel => exact ⟨(wrap64 (x44_3 + (rd y443 x250_3))), (wrap64 (x250_3 + 1)), (by first | rfl | (simp; done) | (simp [*]; done)), (by first | rfl | (simp; done) | (simp [*]; done)), H', ⟨by have := HJ17.out; have := HJ65.out; have := HK3.out; omega⟩, ⟨by (with_reducible repeat (first | apply Kd.R_alloc | apply Kd.R_drewN | apply Kd.R_drew)); exact HO_16.out⟩, ⟨by (with_reducible repeat (first | refine blk_drewN ?_ _ | refine blk_drew ?_ | refine blk_alloc ?_ _)); exact BK394.out⟩, ⟨by (with_reducible repeat (first | refine blk_drewN ?_ _ | refine blk_drew ?_ | refine blk_alloc ?_ _)); exact BK409.out⟩, ⟨by (with_reducible repeat (first | refine blk_drewN ?_ _ | refine blk_drew ?_ | refine blk_alloc ?_ _)); exact BK420.out⟩, ⟨by (with_reducible repeat (first | refine blk_drewN ?_ _ | refine blk_drew ?_ | refine blk_alloc ?_ _)); exact BK429.out⟩, ⟨by repeat (first | (with_reducible exact HR446.out) | (with_reducible refine Kd.C_alloc ?_ _) | (with_reducible refine Kd.C_drewN ?_ _) | (with_reducible refine Kd.C_drew ?_) | exact HR446.out)⟩, ⟨by repeat (first | (with_reducible first | exact HB.out | apply below_alloc | apply pw_below_drewN | apply below_drew1 | refine below_set ?_ GE394.out | refine below_set ?_ GE409.out | refine below_set ?_ GE420.out | refine below_set ?_ GE429.out) | exact HB.out)⟩⟩
                   ·rw [if_neg c125] at H
                    exact absurd H (by simp)
                  ·rw [if_neg c124] at H
                   exact absurd H (by simp)
                 ·rw [if_neg c123] at H
                  have c123b0 : decide (x250_3 < (y443.length : Int)) = false := decide_eq_false c123
                  clear c123
                  (first | rw [c123b0] | (simp only [i64_w, i32_w]; rw [c123b0]) | skip)
                  by_cases c126 : t440 = true
                  ·subst c126
                   have H1 : (if t442 = true then (if t439 = t441 then (if (wrap64 (x44_3 + t414)) = t441 then (if t413 < (t406.length : Int) then (if 0 ≤ t413 then (if (rd t406 t413) ≤ t414 then (some false) else (laws_FnSpools.j3 k3 t393 t396 t397 t401 t428 t431 t432 t390 t391 t392 t425 t426 t427)) else (none)) else (laws_FnSpools.j3 k3 t393 t396 t397 t401 t428 t431 t432 t390 t391 t392 t425 t426 t427)) else (some false)) else (some false)) else (some false)) = some r := by rw [if_pos rfl] at H; exact H
                   clear H
                   have H := H1
                   clear H1
                   by_cases c127 : t442 = true
                   ·subst c127
                    have H1 : (if t439 = t441 then (if (wrap64 (x44_3 + t414)) = t441 then (if t413 < (t406.length : Int) then (if 0 ≤ t413 then (if (rd t406 t413) ≤ t414 then (some false) else (laws_FnSpools.j3 k3 t393 t396 t397 t401 t428 t431 t432 t390 t391 t392 t425 t426 t427)) else (none)) else (laws_FnSpools.j3 k3 t393 t396 t397 t401 t428 t431 t432 t390 t391 t392 t425 t426 t427)) else (some false)) else (some false)) = some r := by rw [if_pos rfl] at H; exact H
                    clear H
                    have H := H1
                    clear H1
                    by_cases c128 : t439 = t441
                    ·rw [if_pos c128] at H
                     have c128b0 : (t439 == t441) = true := beq_iff_eq.mpr c128
                     have c128b1 : (t439 != t441) = false := bne_eq_false_iff_eq.mpr c128
                     clear c128
                     by_cases c129 : (wrap64 (x44_3 + t414)) = t441
                     ·rw [if_pos c129] at H
                      have c129b0 : ((wrap64 (x44_3 + t414)) == t441) = true := beq_iff_eq.mpr c129
                      have c129b1 : ((wrap64 (x44_3 + t414)) != t441) = false := bne_eq_false_iff_eq.mpr c129
                      clear c129
                      by_cases c130 : t413 < (t406.length : Int)
                      ·rw [if_pos c130] at H
                       have c130b0 : decide (t413 < (t406.length : Int)) = true := decide_eq_true c130
                       clear c130
                       by_cases c131 : 0 ≤ t413
                       ·rw [if_pos c131] at H
                        have c131b0 : decide (0 ≤ t413) = true := decide_eq_true c131
                        clear c131
                        by_cases c132 : (rd t406 t413) ≤ t414
                        ·rw [if_pos c132] at H
                         have c132b0 : decide ((rd t406 t413) ≤ t414) = true := decide_eq_true c132
                         clear c132
                         obtain rfl := Option.some.inj H
                         have p448 : 0 ≤ (t413 : Int) := of_decide_eq_true (by first | (with_reducible assumption) | assumption)
                         have q448 : t413 < (t406.length : Int) := of_decide_eq_true (by first | (with_reducible assumption) | assumption)
                         obtain ⟨ad448, e448, hx448_0⟩ := Kd.at_int (Kd.R_reads' HO_16.out).2.2 t413 p448 q448
                         cases e448
                         replace p448 := eq_true p448
                         replace q448 := eq_true q448
                         as_aux_lemma =>
                          go_wp2
                          go_ret
                          exact ⟨by first | rfl | (simp [errW_none, errW_some] <;> rfl) | (simp [*, errW_none, errW_some] <;> rfl), by repeat (first | (with_reducible first | exact HB.out | apply below_alloc | apply pw_below_drewN | apply below_drew1 | refine below_set ?_ GE394.out | refine below_set ?_ GE409.out | refine below_set ?_ GE420.out | refine below_set ?_ GE429.out) | exact HB.out)⟩
                        ·rw [if_neg c132] at H
                         have c132b0 : decide ((rd t406 t413) ≤ t414) = false := decide_eq_false c132
                         clear c132
                         have H' := Aside0.mk H
                         clear H
                         have p448 : 0 ≤ (t413 : Int) := of_decide_eq_true (by first | (with_reducible assumption) | assumption)
                         have q448 : t413 < (t406.length : Int) := of_decide_eq_true (by first | (with_reducible assumption) | assumption)
                         obtain ⟨ad448, e448, hx448_0⟩ := Kd.at_int (Kd.R_reads' HO_16.out).2.2 t413 p448 q448
                         cases e448
                         replace p448 := eq_true p448
                         replace q448 := eq_true q448
                         as_aux_lemma =>
                          go_wp2
                          (refine Met.intro ?_; go_step; (repeat (first | apply ex_32 | apply ex_8 | apply Exists.intro)); refine ⟨?rel, rfl⟩)
                          case rel => exact ⟨_, H', ⟨by have := HJ17.out; have := HJ65.out; have := HK3.out; first | omega | exact Nat.le_refl _⟩, ⟨by (with_reducible repeat (first | refine blk_drewN ?_ _ | refine blk_drew ?_ | refine blk_alloc ?_ _)); exact BK394.out⟩, ⟨by (with_reducible repeat (first | refine blk_drewN ?_ _ | refine blk_drew ?_ | refine blk_alloc ?_ _)); exact BK409.out⟩, ⟨by (with_reducible repeat (first | refine blk_drewN ?_ _ | refine blk_drew ?_ | refine blk_alloc ?_ _)); exact BK420.out⟩, ⟨by (with_reducible repeat (first | refine blk_drewN ?_ _ | refine blk_drew ?_ | refine blk_alloc ?_ _)); exact BK429.out⟩, ⟨by repeat (first | (with_reducible first | exact HB.out | apply below_alloc | apply pw_below_drewN | apply below_drew1 | refine below_set ?_ GE394.out | refine below_set ?_ GE409.out | refine below_set ?_ GE420.out | refine below_set ?_ GE429.out) | exact HB.out)⟩⟩
                       ·rw [if_neg c131] at H
                        exact absurd H (by simp)
                      ·rw [if_neg c130] at H
                       have c130b0 : decide (t413 < (t406.length : Int)) = false := decide_eq_false c130
                       clear c130
                       have H' := Aside0.mk H
                       clear H
                       as_aux_lemma =>
                        go_wp2
                        (refine Met.intro ?_; go_step; (repeat (first | apply ex_32 | apply ex_8 | apply Exists.intro)); refine ⟨?rel, rfl⟩)
                        case rel => exact ⟨_, H', ⟨by have := HJ17.out; have := HJ65.out; have := HK3.out; first | omega | exact Nat.le_refl _⟩, ⟨by (with_reducible repeat (first | refine blk_drewN ?_ _ | refine blk_drew ?_ | refine blk_alloc ?_ _)); exact BK394.out⟩, ⟨by (with_reducible repeat (first | refine blk_drewN ?_ _ | refine blk_drew ?_ | refine blk_alloc ?_ _)); exact BK409.out⟩, ⟨by (with_reducible repeat (first | refine blk_drewN ?_ _ | refine blk_drew ?_ | refine blk_alloc ?_ _)); exact BK420.out⟩, ⟨by (with_reducible repeat (first | refine blk_drewN ?_ _ | refine blk_drew ?_ | refine blk_alloc ?_ _)); exact BK429.out⟩, ⟨by repeat (first | (with_reducible first | exact HB.out | apply below_alloc | apply pw_below_drewN | apply below_drew1 | refine below_set ?_ GE394.out | refine below_set ?_ GE409.out | refine below_set ?_ GE420.out | refine below_set ?_ GE429.out) | exact HB.out)⟩⟩
                     ·rw [if_neg c129] at H
                      have c129b0 : ((wrap64 (x44_3 + t414)) == t441) = false := beq_eq_false_iff_ne.mpr c129
                      have c129b1 : ((wrap64 (x44_3 + t414)) != t441) = true := bne_iff_ne.mpr c129
                      obtain rfl := Option.some.inj H
                      as_aux_lemma =>
                       go_wp2
                       go_ret
                       exact ⟨by first | rfl | (simp [errW_none, errW_some] <;> rfl) | (simp [*, errW_none, errW_some] <;> rfl), by repeat (first | (with_reducible first | exact HB.out | apply below_alloc | apply pw_below_drewN | apply below_drew1 | refine below_set ?_ GE394.out | refine below_set ?_ GE409.out | refine below_set ?_ GE420.out | refine below_set ?_ GE429.out) | exact HB.out)⟩
                    ·rw [if_neg c128] at H
                     have c128b0 : (t439 == t441) = false := beq_eq_false_iff_ne.mpr c128
                     have c128b1 : (t439 != t441) = true := bne_iff_ne.mpr c128
                     obtain rfl := Option.some.inj H
                     as_aux_lemma =>
                      go_wp2
                      go_ret
                      exact ⟨by first | rfl | (simp [errW_none, errW_some] <;> rfl) | (simp [*, errW_none, errW_some] <;> rfl), by repeat (first | (with_reducible first | exact HB.out | apply below_alloc | apply pw_below_drewN | apply below_drew1 | refine below_set ?_ GE394.out | refine below_set ?_ GE409.out | refine below_set ?_ GE420.out | refine below_set ?_ GE429.out) | exact HB.out)⟩
                   ·replace c127 := Bool.eq_false_iff.mpr c127
                    subst c127
                    have H1 : (some false) = some r := by rw [if_neg (show ¬ (false = true) by decide)] at H; exact H
                    clear H
                    have H := H1
                    clear H1
                    obtain rfl := Option.some.inj H
                    as_aux_lemma =>
                     go_wp2
                     go_ret
                     exact ⟨by first | rfl | (simp [errW_none, errW_some] <;> rfl) | (simp [*, errW_none, errW_some] <;> rfl), by repeat (first | (with_reducible first | exact HB.out | apply below_alloc | apply pw_below_drewN | apply below_drew1 | refine below_set ?_ GE394.out | refine below_set ?_ GE409.out | refine below_set ?_ GE420.out | refine below_set ?_ GE429.out) | exact HB.out)⟩
                  ·replace c126 := Bool.eq_false_iff.mpr c126
                   subst c126
                   have H1 : (some false) = some r := by rw [if_neg (show ¬ (false = true) by decide)] at H; exact H
                   clear H
                   have H := H1
                   clear H1
                   obtain rfl := Option.some.inj H
                   as_aux_lemma =>
                    go_wp2
                    go_ret
                    exact ⟨by first | rfl | (simp [errW_none, errW_some] <;> rfl) | (simp [*, errW_none, errW_some] <;> rfl), by repeat (first | (with_reducible first | exact HB.out | apply below_alloc | apply pw_below_drewN | apply below_drew1 | refine below_set ?_ GE394.out | refine below_set ?_ GE409.out | refine below_set ?_ GE420.out | refine below_set ?_ GE429.out) | exact HB.out)⟩
             ·rw [if_neg c114] at H
              exact absurd H (by simp)
            ·rw [if_neg c113] at H
             exact absurd H (by simp)
           ·replace c110 := Bool.eq_false_iff.mpr c110
            subst c110
            have H1 : (laws_FnSpools.j3 kj65 t393 t396 t397 t401 t428 t431 t432 t390 t391 t392 t425 t426 t427) = some r := by rw [if_neg (show ¬ (false = true) by decide)] at H; exact H
            clear H
            have H := H1
            clear H1
            have H' := Aside0.mk H
            clear H
            as_aux_lemma =>
             go_wp2
             (refine Met.intro ?_; go_step; (repeat (first | apply ex_32 | apply ex_8 | apply Exists.intro)); refine ⟨?rel, rfl⟩)
             case rel => exact ⟨_, H', ⟨by have := HJ17.out; have := HJ65.out; first | omega | exact Nat.le_refl _⟩, ⟨by (with_reducible repeat (first | refine blk_drewN ?_ _ | refine blk_drew ?_ | refine blk_alloc ?_ _)); exact BK394.out⟩, ⟨by (with_reducible repeat (first | refine blk_drewN ?_ _ | refine blk_drew ?_ | refine blk_alloc ?_ _)); exact BK409.out⟩, ⟨by (with_reducible repeat (first | refine blk_drewN ?_ _ | refine blk_drew ?_ | refine blk_alloc ?_ _)); exact BK420.out⟩, ⟨by (with_reducible repeat (first | refine blk_drewN ?_ _ | refine blk_drew ?_ | refine blk_alloc ?_ _)); exact BK429.out⟩, ⟨by repeat (first | (with_reducible first | exact HB.out | apply below_alloc | apply pw_below_drewN | apply below_drew1 | refine below_set ?_ GE394.out | refine below_set ?_ GE409.out | refine below_set ?_ GE420.out | refine below_set ?_ GE429.out) | exact HB.out)⟩⟩
         case rest =>
          as_aux_lemma =>
           clear HC109
           (try clear q1); (try clear p4); (try clear q4); (try clear hx4); (try clear c11); (try clear c12); (try clear q12); (try clear c13); (try clear p44); (try clear q44); (try clear hx44); (try clear c110); (try clear c113); (try clear c113b0); (try clear c113b1); (try clear c114); (try clear c114b0); (try clear c114b1); (try clear c115); (try clear c116); (try clear c117); (try clear q122); (try clear c123); (try clear c123b0); (try clear c124); (try clear c124b0); (try clear c125); (try clear c125b0); (try clear c126); (try clear c127); (try clear c128); (try clear c128b0); (try clear c128b1); (try clear c129); (try clear c129b0); (try clear c129b1); (try clear c130); (try clear c130b0); (try clear c131); (try clear c131b0); (try clear c132); (try clear c132b0); (try clear hcz118_0); (try clear hcz118_1); (try clear hcz118_2); (try clear hcz120_0); (try clear hcz120_1); (try clear hcz120_2); (try clear hfz118_0); (try clear hfz118_1); (try clear hfz118_2); (try clear hfz120_0); (try clear hfz120_1); (try clear hfz120_2); (try clear hx447_0); (try clear hx448_0); (try clear p447); (try clear p448); (try clear q447); (try clear q448)
           obtain ⟨kq, HA, HJ108, BK394, BK409, BK420, BK429, HB⟩ := hcut
           cases kq with
           | zero => exact absurd HA.out (by simp [laws_FnSpools.j3])
           | succ kj108 =>
            have H := HA.out
            clear HA
            simp only [laws_FnSpools.j3] at H
            have HC133 := Aside0.mk H
            clear H
            go_upto_region 35 with (fail)
            go_cut [294] (fun v294 wc => ∃ (kq : Nat) (x294_132 : Bool), v294 = .bool x294_132 ∧ Aside0 (laws_FnSpools.j4 kq t393 t396 t397 t401 t428 t432 x294_132 t390 t391 t392 t425 t426 t427 = some r) ∧ Aside0 (kq ≤ kj108) ∧ Aside0 (wc.heap[gb394]? = some (.cells #[.int .i64 t390, .int .i64 t391, .int .i64 t392] 64 (0, 0))) ∧ Aside0 (wc.heap[gb409]? = some (.cells #[.int .i64 t403, .int .i64 t404, .int .i64 t405] 64 (0, 0))) ∧ Aside0 (wc.heap[gb420]? = some (.cells #[.int .i64 t416, .int .i64 t417, .int .i64 t418] 64 (0, 0))) ∧ Aside0 (wc.heap[gb429]? = some (.cells #[.int .i64 t425, .int .i64 t426, .int .i64 t427] 64 (0, 0))) ∧ Aside0 (Below w.heap.size w wc))
            case first =>
             as_aux_lemma =>
              have H := HC133.out
              clear HC133
              by_cases c134 : t431 = true
              ·subst c134
               have H1 : (laws_FnSpools.j4 kj108 t393 t396 t397 t401 t428 t432 (decide (t428 ≥ 8)) t390 t391 t392 t425 t426 t427) = some r := by rw [if_pos rfl] at H; exact H
               clear H
               have H := H1
               clear H1
               have H' := Aside0.mk H
               clear H
               as_aux_lemma =>
                go_wp2
                (refine Met.intro ?_; go_step; (repeat (first | apply ex_32 | apply ex_8 | apply Exists.intro)); refine ⟨?rel, rfl⟩)
                case rel => exact ⟨_, (decide (t428 ≥ 8)), (by first | rfl | (simp; done) | (simp [*]; done)), H', ⟨by have := HJ17.out; have := HJ65.out; have := HJ108.out; first | omega | exact Nat.le_refl _⟩, ⟨by (with_reducible repeat (first | refine blk_drewN ?_ _ | refine blk_drew ?_ | refine blk_alloc ?_ _)); exact BK394.out⟩, ⟨by (with_reducible repeat (first | refine blk_drewN ?_ _ | refine blk_drew ?_ | refine blk_alloc ?_ _)); exact BK409.out⟩, ⟨by (with_reducible repeat (first | refine blk_drewN ?_ _ | refine blk_drew ?_ | refine blk_alloc ?_ _)); exact BK420.out⟩, ⟨by (with_reducible repeat (first | refine blk_drewN ?_ _ | refine blk_drew ?_ | refine blk_alloc ?_ _)); exact BK429.out⟩, ⟨by repeat (first | (with_reducible first | exact HB.out | apply below_alloc | apply pw_below_drewN | apply below_drew1 | refine below_set ?_ GE394.out | refine below_set ?_ GE409.out | refine below_set ?_ GE420.out | refine below_set ?_ GE429.out) | exact HB.out)⟩⟩
              ·replace c134 := Bool.eq_false_iff.mpr c134
               subst c134
               have H1 : (laws_FnSpools.j4 kj108 t393 t396 t397 t401 t428 t432 false t390 t391 t392 t425 t426 t427) = some r := by rw [if_neg (show ¬ (false = true) by decide)] at H; exact H
               clear H
               have H := H1
               clear H1
               have H' := Aside0.mk H
               clear H
               as_aux_lemma =>
                go_wp2
                (refine Met.intro ?_; go_step; (repeat (first | apply ex_32 | apply ex_8 | apply Exists.intro)); refine ⟨?rel, rfl⟩)
                case rel => exact ⟨_, (false), (by first | rfl | (simp; done) | (simp [*]; done)), H', ⟨by have := HJ17.out; have := HJ65.out; have := HJ108.out; first | omega | exact Nat.le_refl _⟩, ⟨by (with_reducible repeat (first | refine blk_drewN ?_ _ | refine blk_drew ?_ | refine blk_alloc ?_ _)); exact BK394.out⟩, ⟨by (with_reducible repeat (first | refine blk_drewN ?_ _ | refine blk_drew ?_ | refine blk_alloc ?_ _)); exact BK409.out⟩, ⟨by (with_reducible repeat (first | refine blk_drewN ?_ _ | refine blk_drew ?_ | refine blk_alloc ?_ _)); exact BK420.out⟩, ⟨by (with_reducible repeat (first | refine blk_drewN ?_ _ | refine blk_drew ?_ | refine blk_alloc ?_ _)); exact BK429.out⟩, ⟨by repeat (first | (with_reducible first | exact HB.out | apply below_alloc | apply pw_below_drewN | apply below_drew1 | refine below_set ?_ GE394.out | refine below_set ?_ GE409.out | refine below_set ?_ GE420.out | refine below_set ?_ GE429.out) | exact HB.out)⟩⟩
            case rest =>
             as_aux_lemma =>
              clear HC133
              (try clear c134)
              obtain ⟨kq, x294_132, rfl, HA, HJ132, BK394, BK409, BK420, BK429, HB⟩ := hcut
              cases kq with
              | zero => exact absurd HA.out (by simp [laws_FnSpools.j4])
              | succ kj132 =>
               have H := HA.out
               clear HA
               simp only [laws_FnSpools.j4] at H
               have HC135 := Aside0.mk H
               clear H
               go_upto_if 294 with (fail)
               go_cut [] (fun wc => ∃ (kq : Nat), Aside0 (laws_FnSpools.j5 kq t393 t396 t397 t401 t390 t391 t392 = some r) ∧ Aside0 (kq ≤ kj132) ∧ Aside0 (wc.heap[gb394]? = some (.cells #[.int .i64 t390, .int .i64 t391, .int .i64 t392] 64 (0, 0))) ∧ Aside0 (wc.heap[gb409]? = some (.cells #[.int .i64 t403, .int .i64 t404, .int .i64 t405] 64 (0, 0))) ∧ Aside0 (wc.heap[gb420]? = some (.cells #[.int .i64 t416, .int .i64 t417, .int .i64 t418] 64 (0, 0))) ∧ Aside0 (wc.heap[gb429]? = some (.cells #[.int .i64 t425, .int .i64 t426, .int .i64 t427] 64 (0, 0))) ∧ Aside0 (Below w.heap.size w wc))
               case first =>
                as_aux_lemma =>
                 have H := HC135.out
                 clear HC135
                 by_cases c136 : x294_132 = true
                 ·subst c136
                  have H1 : ((impl_LengthWound.f t425 t426 t427 (wrap64 (t428 - 8))).bind fun bt449 => ((spec_LengthWound.f t425 t426 t427 (wrap64 (t428 - 8))).bind fun bt451 => (if bt449.2 = true then (if bt451.2 = true then (if bt449.1 = bt451.1 then (if bt451.1 ≥ t432 then (some false) else (laws_FnSpools.j5 kj132 t393 t396 t397 t401 t390 t391 t392)) else (some false)) else (some false)) else (some false)))) = some r := by rw [if_pos rfl] at H; exact H
                  clear H
                  have H := H1
                  clear H1
                  replace H := Option.bind_eq_some_iff.mp H
                  obtain ⟨⟨t449, t450⟩, A1370, H⟩ := H
                  (try dsimp only at H)
                  have A137 := Aside0.mk A1370
                  clear A1370
                  replace H := Option.bind_eq_some_iff.mp H
                  obtain ⟨⟨t451, t452⟩, A1380, H⟩ := H
                  (try dsimp only at H)
                  have A138 := Aside0.mk A1380
                  clear A1380
                  by_cases c139 : t450 = true
                  ·subst c139
                   have H1 : (if t452 = true then (if t449 = t451 then (if t451 ≥ t432 then (some false) else (laws_FnSpools.j5 kj132 t393 t396 t397 t401 t390 t391 t392)) else (some false)) else (some false)) = some r := by rw [if_pos rfl] at H; exact H
                   clear H
                   have H := H1
                   clear H1
                   by_cases c140 : t452 = true
                   ·subst c140
                    have H1 : (if t449 = t451 then (if t451 ≥ t432 then (some false) else (laws_FnSpools.j5 kj132 t393 t396 t397 t401 t390 t391 t392)) else (some false)) = some r := by rw [if_pos rfl] at H; exact H
                    clear H
                    have H := H1
                    clear H1
                    by_cases c141 : t449 = t451
                    ·rw [if_pos c141] at H
                     have c141b0 : (t449 == t451) = true := beq_iff_eq.mpr c141
                     have c141b1 : (t449 != t451) = false := bne_eq_false_iff_eq.mpr c141
                     clear c141
                     (first | rw [c141b0] | (simp only [i64_w, i32_w]; rw [c141b0]) | skip)
                     by_cases c142 : t451 ≥ t432
                     ·rw [if_pos c142] at H
                      have c142b0 : decide (t432 ≤ t451) = true := decide_eq_true c142
                      clear c142
                      obtain rfl := Option.some.inj H
                      have hnb143 := NB429_394.out
                      have hnc143 := NB394_429.out
                      have hnb144 := NB429_409.out
                      have hnc144 := NB409_429.out
                      have hnb145 := NB429_420.out
                      have hnc145 := NB420_429.out
                      have hcz146_0 : wc.cell? ⟨gb429, 0, none⟩ = some (.int .i64 t425) := (blk_cell BK429.out 0).trans rfl
                      have hcz146_1 : wc.cell? ⟨gb429, 1, none⟩ = some (.int .i64 t426) := (blk_cell BK429.out 1).trans rfl
                      have hcz146_2 : wc.cell? ⟨gb429, 2, none⟩ = some (.int .i64 t427) := (blk_cell BK429.out 2).trans rfl
                      have hfz146_0 := blk_frozen BK429.out 0
                      have hfz146_1 := blk_frozen BK429.out 1
                      have hfz146_2 := blk_frozen BK429.out 2
                      as_aux_lemma =>
                       go_wp2_with (first | ((with_reducible refine gate_callee (f := 60) rfl ?_); refine goesL_ (some 299) rfl rfl Try.func60 (by kernel_rfl) rfl #[.agg #[.int .i64 t425, .int .i64 t426, .int .i64 t427], .int .i64 (wrap64 (t428 - 8))] rfl (by (try simp only [List.map_toArray, List.map_cons, List.map_nil]); first | done | rfl | (simp only [List.length_drop, List.length_take]; rfl)) ?_; (with_reducible refine (impl_LengthWound.calls t425 t426 t427 (wrap64 (t428 - 8)) t449 true _ A137.out).mono ?_); rintro e w147 ⟨rfl, hb⟩; refine ⟨_, rfl, ?_⟩; have n0_ := Aside0.mk (blk_below (g := gb394) (o := .cells #[.int .i64 t390, .int .i64 t391, .int .i64 t392] 64 (0, 0)) (by (with_reducible repeat (first | refine blk_drewN ?_ _ | refine blk_drew ?_ | refine blk_alloc ?_ _)); exact BK394.out) hb); have n1_ := Aside0.mk (blk_below (g := gb409) (o := .cells #[.int .i64 t403, .int .i64 t404, .int .i64 t405] 64 (0, 0)) (by (with_reducible repeat (first | refine blk_drewN ?_ _ | refine blk_drew ?_ | refine blk_alloc ?_ _)); exact BK409.out) hb); have n2_ := Aside0.mk (blk_below (g := gb420) (o := .cells #[.int .i64 t416, .int .i64 t417, .int .i64 t418] 64 (0, 0)) (by (with_reducible repeat (first | refine blk_drewN ?_ _ | refine blk_drew ?_ | refine blk_alloc ?_ _)); exact BK420.out) hb); have n3_ := Aside0.mk (blk_below (g := gb429) (o := .cells #[.int .i64 t425, .int .i64 t426, .int .i64 t427] 64 (0, 0)) (by (with_reducible repeat (first | refine blk_drewN ?_ _ | refine blk_drew ?_ | refine blk_alloc ?_ _)); exact BK429.out) hb); have n4_ := Aside0.mk (below_step (by repeat (first | (with_reducible first | exact HB.out | apply below_alloc | apply pw_below_drewN | apply below_drew1 | refine below_set ?_ GE394.out | refine below_set ?_ GE409.out | refine below_set ?_ GE420.out | refine below_set ?_ GE429.out) | exact HB.out)) hb); clear BK394; clear BK409; clear BK420; clear BK429; clear HB; have BK394 := n0_; have BK409 := n1_; have BK420 := n2_; have BK429 := n3_; have HB := n4_; clear n0_ n1_ n2_ n3_ n4_; (try clear hb); (try clear hb2); (try clear hk); (try clear hi); have hcz148_0 : w147.cell? ⟨gb429, 0, none⟩ = some (.int .i64 t425) := (blk_cell BK429.out 0).trans rfl; have hcz148_1 : w147.cell? ⟨gb429, 1, none⟩ = some (.int .i64 t426) := (blk_cell BK429.out 1).trans rfl; have hcz148_2 : w147.cell? ⟨gb429, 2, none⟩ = some (.int .i64 t427) := (blk_cell BK429.out 2).trans rfl; have hfz148_0 := blk_frozen BK429.out 0; have hfz148_1 := blk_frozen BK429.out 1; have hfz148_2 := blk_frozen BK429.out 2) | ((with_reducible refine gate_callee (f := 61) rfl ?_); refine goesL_ (some 306) rfl rfl Try.func61 (by kernel_rfl) rfl #[.agg #[.int .i64 t425, .int .i64 t426, .int .i64 t427], .int .i64 (wrap64 (t428 - 8))] rfl (by (try simp only [List.map_toArray, List.map_cons, List.map_nil]); first | done | rfl | (simp only [List.length_drop, List.length_take]; rfl)) ?_; (with_reducible refine (spec_LengthWound.calls t425 t426 t427 (wrap64 (t428 - 8)) t451 true _ A138.out).mono ?_); rintro e w149 ⟨rfl, hb⟩; refine ⟨_, rfl, ?_⟩; have n0_ := Aside0.mk (blk_below (g := gb394) (o := .cells #[.int .i64 t390, .int .i64 t391, .int .i64 t392] 64 (0, 0)) (by (with_reducible repeat (first | refine blk_drewN ?_ _ | refine blk_drew ?_ | refine blk_alloc ?_ _)); exact BK394.out) hb); have n1_ := Aside0.mk (blk_below (g := gb409) (o := .cells #[.int .i64 t403, .int .i64 t404, .int .i64 t405] 64 (0, 0)) (by (with_reducible repeat (first | refine blk_drewN ?_ _ | refine blk_drew ?_ | refine blk_alloc ?_ _)); exact BK409.out) hb); have n2_ := Aside0.mk (blk_below (g := gb420) (o := .cells #[.int .i64 t416, .int .i64 t417, .int .i64 t418] 64 (0, 0)) (by (with_reducible repeat (first | refine blk_drewN ?_ _ | refine blk_drew ?_ | refine blk_alloc ?_ _)); exact BK420.out) hb); have n3_ := Aside0.mk (blk_below (g := gb429) (o := .cells #[.int .i64 t425, .int .i64 t426, .int .i64 t427] 64 (0, 0)) (by (with_reducible repeat (first | refine blk_drewN ?_ _ | refine blk_drew ?_ | refine blk_alloc ?_ _)); exact BK429.out) hb); have n4_ := Aside0.mk (below_step (by repeat (first | (with_reducible first | exact HB.out | apply below_alloc | apply pw_below_drewN | apply below_drew1 | refine below_set ?_ GE394.out | refine below_set ?_ GE409.out | refine below_set ?_ GE420.out | refine below_set ?_ GE429.out) | exact HB.out)) hb); clear BK394; clear BK409; clear BK420; clear BK429; clear HB; have BK394 := n0_; have BK409 := n1_; have BK420 := n2_; have BK429 := n3_; have HB := n4_; clear n0_ n1_ n2_ n3_ n4_; (try clear hb); (try clear hb2); (try clear hk); (try clear hi)))
                       go_ret
                       exact ⟨by first | rfl | (simp [errW_none, errW_some] <;> rfl) | (simp [*, errW_none, errW_some] <;> rfl), by repeat (first | (with_reducible first | exact HB.out | apply below_alloc | apply pw_below_drewN | apply below_drew1 | refine below_set ?_ GE394.out | refine below_set ?_ GE409.out | refine below_set ?_ GE420.out | refine below_set ?_ GE429.out) | exact HB.out)⟩
                     ·rw [if_neg c142] at H
                      have c142b0 : decide (t432 ≤ t451) = false := decide_eq_false c142
                      clear c142
                      have H' := Aside0.mk H
                      clear H
                      have hnb150 := NB429_394.out
                      have hnc150 := NB394_429.out
                      have hnb151 := NB429_409.out
                      have hnc151 := NB409_429.out
                      have hnb152 := NB429_420.out
                      have hnc152 := NB420_429.out
                      have hcz153_0 : wc.cell? ⟨gb429, 0, none⟩ = some (.int .i64 t425) := (blk_cell BK429.out 0).trans rfl
                      have hcz153_1 : wc.cell? ⟨gb429, 1, none⟩ = some (.int .i64 t426) := (blk_cell BK429.out 1).trans rfl
                      have hcz153_2 : wc.cell? ⟨gb429, 2, none⟩ = some (.int .i64 t427) := (blk_cell BK429.out 2).trans rfl
                      have hfz153_0 := blk_frozen BK429.out 0
                      have hfz153_1 := blk_frozen BK429.out 1
                      have hfz153_2 := blk_frozen BK429.out 2
                      as_aux_lemma =>
                       go_wp2_with (first | ((with_reducible refine gate_callee (f := 60) rfl ?_); refine goesL_ (some 299) rfl rfl Try.func60 (by kernel_rfl) rfl #[.agg #[.int .i64 t425, .int .i64 t426, .int .i64 t427], .int .i64 (wrap64 (t428 - 8))] rfl (by (try simp only [List.map_toArray, List.map_cons, List.map_nil]); first | done | rfl | (simp only [List.length_drop, List.length_take]; rfl)) ?_; (with_reducible refine (impl_LengthWound.calls t425 t426 t427 (wrap64 (t428 - 8)) t449 true _ A137.out).mono ?_); rintro e w154 ⟨rfl, hb⟩; refine ⟨_, rfl, ?_⟩; have n0_ := Aside0.mk (blk_below (g := gb394) (o := .cells #[.int .i64 t390, .int .i64 t391, .int .i64 t392] 64 (0, 0)) (by (with_reducible repeat (first | refine blk_drewN ?_ _ | refine blk_drew ?_ | refine blk_alloc ?_ _)); exact BK394.out) hb); have n1_ := Aside0.mk (blk_below (g := gb409) (o := .cells #[.int .i64 t403, .int .i64 t404, .int .i64 t405] 64 (0, 0)) (by (with_reducible repeat (first | refine blk_drewN ?_ _ | refine blk_drew ?_ | refine blk_alloc ?_ _)); exact BK409.out) hb); have n2_ := Aside0.mk (blk_below (g := gb420) (o := .cells #[.int .i64 t416, .int .i64 t417, .int .i64 t418] 64 (0, 0)) (by (with_reducible repeat (first | refine blk_drewN ?_ _ | refine blk_drew ?_ | refine blk_alloc ?_ _)); exact BK420.out) hb); have n3_ := Aside0.mk (blk_below (g := gb429) (o := .cells #[.int .i64 t425, .int .i64 t426, .int .i64 t427] 64 (0, 0)) (by (with_reducible repeat (first | refine blk_drewN ?_ _ | refine blk_drew ?_ | refine blk_alloc ?_ _)); exact BK429.out) hb); have n4_ := Aside0.mk (below_step (by repeat (first | (with_reducible first | exact HB.out | apply below_alloc | apply pw_below_drewN | apply below_drew1 | refine below_set ?_ GE394.out | refine below_set ?_ GE409.out | refine below_set ?_ GE420.out | refine below_set ?_ GE429.out) | exact HB.out)) hb); clear BK394; clear BK409; clear BK420; clear BK429; clear HB; have BK394 := n0_; have BK409 := n1_; have BK420 := n2_; have BK429 := n3_; have HB := n4_; clear n0_ n1_ n2_ n3_ n4_; (try clear hb); (try clear hb2); (try clear hk); (try clear hi); have hcz155_0 : w154.cell? ⟨gb429, 0, none⟩ = some (.int .i64 t425) := (blk_cell BK429.out 0).trans rfl; have hcz155_1 : w154.cell? ⟨gb429, 1, none⟩ = some (.int .i64 t426) := (blk_cell BK429.out 1).trans rfl; have hcz155_2 : w154.cell? ⟨gb429, 2, none⟩ = some (.int .i64 t427) := (blk_cell BK429.out 2).trans rfl; have hfz155_0 := blk_frozen BK429.out 0; have hfz155_1 := blk_frozen BK429.out 1; have hfz155_2 := blk_frozen BK429.out 2) | ((with_reducible refine gate_callee (f := 61) rfl ?_); refine goesL_ (some 306) rfl rfl Try.func61 (by kernel_rfl) rfl #[.agg #[.int .i64 t425, .int .i64 t426, .int .i64 t427], .int .i64 (wrap64 (t428 - 8))] rfl (by (try simp only [List.map_toArray, List.map_cons, List.map_nil]); first | done | rfl | (simp only [List.length_drop, List.length_take]; rfl)) ?_; (with_reducible refine (spec_LengthWound.calls t425 t426 t427 (wrap64 (t428 - 8)) t451 true _ A138.out).mono ?_); rintro e w156 ⟨rfl, hb⟩; refine ⟨_, rfl, ?_⟩; have n0_ := Aside0.mk (blk_below (g := gb394) (o := .cells #[.int .i64 t390, .int .i64 t391, .int .i64 t392] 64 (0, 0)) (by (with_reducible repeat (first | refine blk_drewN ?_ _ | refine blk_drew ?_ | refine blk_alloc ?_ _)); exact BK394.out) hb); have n1_ := Aside0.mk (blk_below (g := gb409) (o := .cells #[.int .i64 t403, .int .i64 t404, .int .i64 t405] 64 (0, 0)) (by (with_reducible repeat (first | refine blk_drewN ?_ _ | refine blk_drew ?_ | refine blk_alloc ?_ _)); exact BK409.out) hb); have n2_ := Aside0.mk (blk_below (g := gb420) (o := .cells #[.int .i64 t416, .int .i64 t417, .int .i64 t418] 64 (0, 0)) (by (with_reducible repeat (first | refine blk_drewN ?_ _ | refine blk_drew ?_ | refine blk_alloc ?_ _)); exact BK420.out) hb); have n3_ := Aside0.mk (blk_below (g := gb429) (o := .cells #[.int .i64 t425, .int .i64 t426, .int .i64 t427] 64 (0, 0)) (by (with_reducible repeat (first | refine blk_drewN ?_ _ | refine blk_drew ?_ | refine blk_alloc ?_ _)); exact BK429.out) hb); have n4_ := Aside0.mk (below_step (by repeat (first | (with_reducible first | exact HB.out | apply below_alloc | apply pw_below_drewN | apply below_drew1 | refine below_set ?_ GE394.out | refine below_set ?_ GE409.out | refine below_set ?_ GE420.out | refine below_set ?_ GE429.out) | exact HB.out)) hb); clear BK394; clear BK409; clear BK420; clear BK429; clear HB; have BK394 := n0_; have BK409 := n1_; have BK420 := n2_; have BK429 := n3_; have HB := n4_; clear n0_ n1_ n2_ n3_ n4_; (try clear hb); (try clear hb2); (try clear hk); (try clear hi)))
                       (refine Met.intro ?_; go_step; (repeat (first | apply ex_32 | apply ex_8 | apply Exists.intro)); refine ⟨?rel, rfl⟩)
                       case rel => exact ⟨_, H', ⟨by have := HJ17.out; have := HJ65.out; have := HJ108.out; have := HJ132.out; first | omega | exact Nat.le_refl _⟩, ⟨by (with_reducible repeat (first | refine blk_drewN ?_ _ | refine blk_drew ?_ | refine blk_alloc ?_ _)); exact BK394.out⟩, ⟨by (with_reducible repeat (first | refine blk_drewN ?_ _ | refine blk_drew ?_ | refine blk_alloc ?_ _)); exact BK409.out⟩, ⟨by (with_reducible repeat (first | refine blk_drewN ?_ _ | refine blk_drew ?_ | refine blk_alloc ?_ _)); exact BK420.out⟩, ⟨by (with_reducible repeat (first | refine blk_drewN ?_ _ | refine blk_drew ?_ | refine blk_alloc ?_ _)); exact BK429.out⟩, ⟨by repeat (first | (with_reducible first | exact HB.out | apply below_alloc | apply pw_below_drewN | apply below_drew1 | refine below_set ?_ GE394.out | refine below_set ?_ GE409.out | refine below_set ?_ GE420.out | refine below_set ?_ GE429.out) | exact HB.out)⟩⟩
                    ·rw [if_neg c141] at H
                     have c141b0 : (t449 == t451) = false := beq_eq_false_iff_ne.mpr c141
                     have c141b1 : (t449 != t451) = true := bne_iff_ne.mpr c141
                     (first | rw [c141b0] | (simp only [i64_w, i32_w]; rw [c141b0]) | skip)
                     obtain rfl := Option.some.inj H
                     have hnb157 := NB429_394.out
                     have hnc157 := NB394_429.out
                     have hnb158 := NB429_409.out
                     have hnc158 := NB409_429.out
                     have hnb159 := NB429_420.out
                     have hnc159 := NB420_429.out
                     have hcz160_0 : wc.cell? ⟨gb429, 0, none⟩ = some (.int .i64 t425) := (blk_cell BK429.out 0).trans rfl
                     have hcz160_1 : wc.cell? ⟨gb429, 1, none⟩ = some (.int .i64 t426) := (blk_cell BK429.out 1).trans rfl
                     have hcz160_2 : wc.cell? ⟨gb429, 2, none⟩ = some (.int .i64 t427) := (blk_cell BK429.out 2).trans rfl
                     have hfz160_0 := blk_frozen BK429.out 0
                     have hfz160_1 := blk_frozen BK429.out 1
                     have hfz160_2 := blk_frozen BK429.out 2
                     as_aux_lemma =>
                      go_wp2_with (first | ((with_reducible refine gate_callee (f := 60) rfl ?_); refine goesL_ (some 299) rfl rfl Try.func60 (by kernel_rfl) rfl #[.agg #[.int .i64 t425, .int .i64 t426, .int .i64 t427], .int .i64 (wrap64 (t428 - 8))] rfl (by (try simp only [List.map_toArray, List.map_cons, List.map_nil]); first | done | rfl | (simp only [List.length_drop, List.length_take]; rfl)) ?_; (with_reducible refine (impl_LengthWound.calls t425 t426 t427 (wrap64 (t428 - 8)) t449 true _ A137.out).mono ?_); rintro e w161 ⟨rfl, hb⟩; refine ⟨_, rfl, ?_⟩; have n0_ := Aside0.mk (blk_below (g := gb394) (o := .cells #[.int .i64 t390, .int .i64 t391, .int .i64 t392] 64 (0, 0)) (by (with_reducible repeat (first | refine blk_drewN ?_ _ | refine blk_drew ?_ | refine blk_alloc ?_ _)); exact BK394.out) hb); have n1_ := Aside0.mk (blk_below (g := gb409) (o := .cells #[.int .i64 t403, .int .i64 t404, .int .i64 t405] 64 (0, 0)) (by (with_reducible repeat (first | refine blk_drewN ?_ _ | refine blk_drew ?_ | refine blk_alloc ?_ _)); exact BK409.out) hb); have n2_ := Aside0.mk (blk_below (g := gb420) (o := .cells #[.int .i64 t416, .int .i64 t417, .int .i64 t418] 64 (0, 0)) (by (with_reducible repeat (first | refine blk_drewN ?_ _ | refine blk_drew ?_ | refine blk_alloc ?_ _)); exact BK420.out) hb); have n3_ := Aside0.mk (blk_below (g := gb429) (o := .cells #[.int .i64 t425, .int .i64 t426, .int .i64 t427] 64 (0, 0)) (by (with_reducible repeat (first | refine blk_drewN ?_ _ | refine blk_drew ?_ | refine blk_alloc ?_ _)); exact BK429.out) hb); have n4_ := Aside0.mk (below_step (by repeat (first | (with_reducible first | exact HB.out | apply below_alloc | apply pw_below_drewN | apply below_drew1 | refine below_set ?_ GE394.out | refine below_set ?_ GE409.out | refine below_set ?_ GE420.out | refine below_set ?_ GE429.out) | exact HB.out)) hb); clear BK394; clear BK409; clear BK420; clear BK429; clear HB; have BK394 := n0_; have BK409 := n1_; have BK420 := n2_; have BK429 := n3_; have HB := n4_; clear n0_ n1_ n2_ n3_ n4_; (try clear hb); (try clear hb2); (try clear hk); (try clear hi); have hcz162_0 : w161.cell? ⟨gb429, 0, none⟩ = some (.int .i64 t425) := (blk_cell BK429.out 0).trans rfl; have hcz162_1 : w161.cell? ⟨gb429, 1, none⟩ = some (.int .i64 t426) := (blk_cell BK429.out 1).trans rfl; have hcz162_2 : w161.cell? ⟨gb429, 2, none⟩ = some (.int .i64 t427) := (blk_cell BK429.out 2).trans rfl; have hfz162_0 := blk_frozen BK429.out 0; have hfz162_1 := blk_frozen BK429.out 1; have hfz162_2 := blk_frozen BK429.out 2) | ((with_reducible refine gate_callee (f := 61) rfl ?_); refine goesL_ (some 306) rfl rfl Try.func61 (by kernel_rfl) rfl #[.agg #[.int .i64 t425, .int .i64 t426, .int .i64 t427], .int .i64 (wrap64 (t428 - 8))] rfl (by (try simp only [List.map_toArray, List.map_cons, List.map_nil]); first | done | rfl | (simp only [List.length_drop, List.length_take]; rfl)) ?_; (with_reducible refine (spec_LengthWound.calls t425 t426 t427 (wrap64 (t428 - 8)) t451 true _ A138.out).mono ?_); rintro e w163 ⟨rfl, hb⟩; refine ⟨_, rfl, ?_⟩; have n0_ := Aside0.mk (blk_below (g := gb394) (o := .cells #[.int .i64 t390, .int .i64 t391, .int .i64 t392] 64 (0, 0)) (by (with_reducible repeat (first | refine blk_drewN ?_ _ | refine blk_drew ?_ | refine blk_alloc ?_ _)); exact BK394.out) hb); have n1_ := Aside0.mk (blk_below (g := gb409) (o := .cells #[.int .i64 t403, .int .i64 t404, .int .i64 t405] 64 (0, 0)) (by (with_reducible repeat (first | refine blk_drewN ?_ _ | refine blk_drew ?_ | refine blk_alloc ?_ _)); exact BK409.out) hb); have n2_ := Aside0.mk (blk_below (g := gb420) (o := .cells #[.int .i64 t416, .int .i64 t417, .int .i64 t418] 64 (0, 0)) (by (with_reducible repeat (first | refine blk_drewN ?_ _ | refine blk_drew ?_ | refine blk_alloc ?_ _)); exact BK420.out) hb); have n3_ := Aside0.mk (blk_below (g := gb429) (o := .cells #[.int .i64 t425, .int .i64 t426, .int .i64 t427] 64 (0, 0)) (by (with_reducible repeat (first | refine blk_drewN ?_ _ | refine blk_drew ?_ | refine blk_alloc ?_ _)); exact BK429.out) hb); have n4_ := Aside0.mk (below_step (by repeat (first | (with_reducible first | exact HB.out | apply below_alloc | apply pw_below_drewN | apply below_drew1 | refine below_set ?_ GE394.out | refine below_set ?_ GE409.out | refine below_set ?_ GE420.out | refine below_set ?_ GE429.out) | exact HB.out)) hb); clear BK394; clear BK409; clear BK420; clear BK429; clear HB; have BK394 := n0_; have BK409 := n1_; have BK420 := n2_; have BK429 := n3_; have HB := n4_; clear n0_ n1_ n2_ n3_ n4_; (try clear hb); (try clear hb2); (try clear hk); (try clear hi)))
                      go_ret
                      exact ⟨by first | rfl | (simp [errW_none, errW_some] <;> rfl) | (simp [*, errW_none, errW_some] <;> rfl), by repeat (first | (with_reducible first | exact HB.out | apply below_alloc | apply pw_below_drewN | apply below_drew1 | refine below_set ?_ GE394.out | refine below_set ?_ GE409.out | refine below_set ?_ GE420.out | refine below_set ?_ GE429.out) | exact HB.out)⟩
                   ·replace c140 := Bool.eq_false_iff.mpr c140
                    subst c140
                    have H1 : (some false) = some r := by rw [if_neg (show ¬ (false = true) by decide)] at H; exact H
                    clear H
                    have H := H1
                    clear H1
                    obtain rfl := Option.some.inj H
                    have hnb164 := NB429_394.out
                    have hnc164 := NB394_429.out
                    have hnb165 := NB429_409.out
                    have hnc165 := NB409_429.out
                    have hnb166 := NB429_420.out
                    have hnc166 := NB420_429.out
                    have hcz167_0 : wc.cell? ⟨gb429, 0, none⟩ = some (.int .i64 t425) := (blk_cell BK429.out 0).trans rfl
                    have hcz167_1 : wc.cell? ⟨gb429, 1, none⟩ = some (.int .i64 t426) := (blk_cell BK429.out 1).trans rfl
                    have hcz167_2 : wc.cell? ⟨gb429, 2, none⟩ = some (.int .i64 t427) := (blk_cell BK429.out 2).trans rfl
                    have hfz167_0 := blk_frozen BK429.out 0
                    have hfz167_1 := blk_frozen BK429.out 1
                    have hfz167_2 := blk_frozen BK429.out 2
                    as_aux_lemma =>
                     go_wp2_with (first | ((with_reducible refine gate_callee (f := 60) rfl ?_); refine goesL_ (some 299) rfl rfl Try.func60 (by kernel_rfl) rfl #[.agg #[.int .i64 t425, .int .i64 t426, .int .i64 t427], .int .i64 (wrap64 (t428 - 8))] rfl (by (try simp only [List.map_toArray, List.map_cons, List.map_nil]); first | done | rfl | (simp only [List.length_drop, List.length_take]; rfl)) ?_; (with_reducible refine (impl_LengthWound.calls t425 t426 t427 (wrap64 (t428 - 8)) t449 true _ A137.out).mono ?_); rintro e w168 ⟨rfl, hb⟩; refine ⟨_, rfl, ?_⟩; have n0_ := Aside0.mk (blk_below (g := gb394) (o := .cells #[.int .i64 t390, .int .i64 t391, .int .i64 t392] 64 (0, 0)) (by (with_reducible repeat (first | refine blk_drewN ?_ _ | refine blk_drew ?_ | refine blk_alloc ?_ _)); exact BK394.out) hb); have n1_ := Aside0.mk (blk_below (g := gb409) (o := .cells #[.int .i64 t403, .int .i64 t404, .int .i64 t405] 64 (0, 0)) (by (with_reducible repeat (first | refine blk_drewN ?_ _ | refine blk_drew ?_ | refine blk_alloc ?_ _)); exact BK409.out) hb); have n2_ := Aside0.mk (blk_below (g := gb420) (o := .cells #[.int .i64 t416, .int .i64 t417, .int .i64 t418] 64 (0, 0)) (by (with_reducible repeat (first | refine blk_drewN ?_ _ | refine blk_drew ?_ | refine blk_alloc ?_ _)); exact BK420.out) hb); have n3_ := Aside0.mk (blk_below (g := gb429) (o := .cells #[.int .i64 t425, .int .i64 t426, .int .i64 t427] 64 (0, 0)) (by (with_reducible repeat (first | refine blk_drewN ?_ _ | refine blk_drew ?_ | refine blk_alloc ?_ _)); exact BK429.out) hb); have n4_ := Aside0.mk (below_step (by repeat (first | (with_reducible first | exact HB.out | apply below_alloc | apply pw_below_drewN | apply below_drew1 | refine below_set ?_ GE394.out | refine below_set ?_ GE409.out | refine below_set ?_ GE420.out | refine below_set ?_ GE429.out) | exact HB.out)) hb); clear BK394; clear BK409; clear BK420; clear BK429; clear HB; have BK394 := n0_; have BK409 := n1_; have BK420 := n2_; have BK429 := n3_; have HB := n4_; clear n0_ n1_ n2_ n3_ n4_; (try clear hb); (try clear hb2); (try clear hk); (try clear hi); have hcz169_0 : w168.cell? ⟨gb429, 0, none⟩ = some (.int .i64 t425) := (blk_cell BK429.out 0).trans rfl; have hcz169_1 : w168.cell? ⟨gb429, 1, none⟩ = some (.int .i64 t426) := (blk_cell BK429.out 1).trans rfl; have hcz169_2 : w168.cell? ⟨gb429, 2, none⟩ = some (.int .i64 t427) := (blk_cell BK429.out 2).trans rfl; have hfz169_0 := blk_frozen BK429.out 0; have hfz169_1 := blk_frozen BK429.out 1; have hfz169_2 := blk_frozen BK429.out 2) | ((with_reducible refine gate_callee (f := 61) rfl ?_); refine goesL_ (some 306) rfl rfl Try.func61 (by kernel_rfl) rfl #[.agg #[.int .i64 t425, .int .i64 t426, .int .i64 t427], .int .i64 (wrap64 (t428 - 8))] rfl (by (try simp only [List.map_toArray, List.map_cons, List.map_nil]); first | done | rfl | (simp only [List.length_drop, List.length_take]; rfl)) ?_; (with_reducible refine (spec_LengthWound.calls t425 t426 t427 (wrap64 (t428 - 8)) t451 false _ A138.out).mono ?_); rintro e w170 ⟨rfl, hb⟩; refine ⟨_, rfl, ?_⟩; have n0_ := Aside0.mk (blk_below (g := gb394) (o := .cells #[.int .i64 t390, .int .i64 t391, .int .i64 t392] 64 (0, 0)) (by (with_reducible repeat (first | refine blk_drewN ?_ _ | refine blk_drew ?_ | refine blk_alloc ?_ _)); exact BK394.out) hb); have n1_ := Aside0.mk (blk_below (g := gb409) (o := .cells #[.int .i64 t403, .int .i64 t404, .int .i64 t405] 64 (0, 0)) (by (with_reducible repeat (first | refine blk_drewN ?_ _ | refine blk_drew ?_ | refine blk_alloc ?_ _)); exact BK409.out) hb); have n2_ := Aside0.mk (blk_below (g := gb420) (o := .cells #[.int .i64 t416, .int .i64 t417, .int .i64 t418] 64 (0, 0)) (by (with_reducible repeat (first | refine blk_drewN ?_ _ | refine blk_drew ?_ | refine blk_alloc ?_ _)); exact BK420.out) hb); have n3_ := Aside0.mk (blk_below (g := gb429) (o := .cells #[.int .i64 t425, .int .i64 t426, .int .i64 t427] 64 (0, 0)) (by (with_reducible repeat (first | refine blk_drewN ?_ _ | refine blk_drew ?_ | refine blk_alloc ?_ _)); exact BK429.out) hb); have n4_ := Aside0.mk (below_step (by repeat (first | (with_reducible first | exact HB.out | apply below_alloc | apply pw_below_drewN | apply below_drew1 | refine below_set ?_ GE394.out | refine below_set ?_ GE409.out | refine below_set ?_ GE420.out | refine below_set ?_ GE429.out) | exact HB.out)) hb); clear BK394; clear BK409; clear BK420; clear BK429; clear HB; have BK394 := n0_; have BK409 := n1_; have BK420 := n2_; have BK429 := n3_; have HB := n4_; clear n0_ n1_ n2_ n3_ n4_; (try clear hb); (try clear hb2); (try clear hk); (try clear hi)))
                     go_ret
                     exact ⟨by first | rfl | (simp [errW_none, errW_some] <;> rfl) | (simp [*, errW_none, errW_some] <;> rfl), by repeat (first | (with_reducible first | exact HB.out | apply below_alloc | apply pw_below_drewN | apply below_drew1 | refine below_set ?_ GE394.out | refine below_set ?_ GE409.out | refine below_set ?_ GE420.out | refine below_set ?_ GE429.out) | exact HB.out)⟩
                  ·replace c139 := Bool.eq_false_iff.mpr c139
                   subst c139
                   have H1 : (some false) = some r := by rw [if_neg (show ¬ (false = true) by decide)] at H; exact H
                   clear H
                   have H := H1
                   clear H1
                   obtain rfl := Option.some.inj H
                   have hnb171 := NB429_394.out
                   have hnc171 := NB394_429.out
                   have hnb172 := NB429_409.out
                   have hnc172 := NB409_429.out
                   have hnb173 := NB429_420.out
                   have hnc173 := NB420_429.out
                   have hcz174_0 : wc.cell? ⟨gb429, 0, none⟩ = some (.int .i64 t425) := (blk_cell BK429.out 0).trans rfl
                   have hcz174_1 : wc.cell? ⟨gb429, 1, none⟩ = some (.int .i64 t426) := (blk_cell BK429.out 1).trans rfl
                   have hcz174_2 : wc.cell? ⟨gb429, 2, none⟩ = some (.int .i64 t427) := (blk_cell BK429.out 2).trans rfl
                   have hfz174_0 := blk_frozen BK429.out 0
                   have hfz174_1 := blk_frozen BK429.out 1
                   have hfz174_2 := blk_frozen BK429.out 2
                   as_aux_lemma =>
                    go_wp2_with (first | ((with_reducible refine gate_callee (f := 60) rfl ?_); refine goesL_ (some 299) rfl rfl Try.func60 (by kernel_rfl) rfl #[.agg #[.int .i64 t425, .int .i64 t426, .int .i64 t427], .int .i64 (wrap64 (t428 - 8))] rfl (by (try simp only [List.map_toArray, List.map_cons, List.map_nil]); first | done | rfl | (simp only [List.length_drop, List.length_take]; rfl)) ?_; (with_reducible refine (impl_LengthWound.calls t425 t426 t427 (wrap64 (t428 - 8)) t449 false _ A137.out).mono ?_); rintro e w175 ⟨rfl, hb⟩; refine ⟨_, rfl, ?_⟩; have n0_ := Aside0.mk (blk_below (g := gb394) (o := .cells #[.int .i64 t390, .int .i64 t391, .int .i64 t392] 64 (0, 0)) (by (with_reducible repeat (first | refine blk_drewN ?_ _ | refine blk_drew ?_ | refine blk_alloc ?_ _)); exact BK394.out) hb); have n1_ := Aside0.mk (blk_below (g := gb409) (o := .cells #[.int .i64 t403, .int .i64 t404, .int .i64 t405] 64 (0, 0)) (by (with_reducible repeat (first | refine blk_drewN ?_ _ | refine blk_drew ?_ | refine blk_alloc ?_ _)); exact BK409.out) hb); have n2_ := Aside0.mk (blk_below (g := gb420) (o := .cells #[.int .i64 t416, .int .i64 t417, .int .i64 t418] 64 (0, 0)) (by (with_reducible repeat (first | refine blk_drewN ?_ _ | refine blk_drew ?_ | refine blk_alloc ?_ _)); exact BK420.out) hb); have n3_ := Aside0.mk (blk_below (g := gb429) (o := .cells #[.int .i64 t425, .int .i64 t426, .int .i64 t427] 64 (0, 0)) (by (with_reducible repeat (first | refine blk_drewN ?_ _ | refine blk_drew ?_ | refine blk_alloc ?_ _)); exact BK429.out) hb); have n4_ := Aside0.mk (below_step (by repeat (first | (with_reducible first | exact HB.out | apply below_alloc | apply pw_below_drewN | apply below_drew1 | refine below_set ?_ GE394.out | refine below_set ?_ GE409.out | refine below_set ?_ GE420.out | refine below_set ?_ GE429.out) | exact HB.out)) hb); clear BK394; clear BK409; clear BK420; clear BK429; clear HB; have BK394 := n0_; have BK409 := n1_; have BK420 := n2_; have BK429 := n3_; have HB := n4_; clear n0_ n1_ n2_ n3_ n4_; (try clear hb); (try clear hb2); (try clear hk); (try clear hi); have hcz176_0 : w175.cell? ⟨gb429, 0, none⟩ = some (.int .i64 t425) := (blk_cell BK429.out 0).trans rfl; have hcz176_1 : w175.cell? ⟨gb429, 1, none⟩ = some (.int .i64 t426) := (blk_cell BK429.out 1).trans rfl; have hcz176_2 : w175.cell? ⟨gb429, 2, none⟩ = some (.int .i64 t427) := (blk_cell BK429.out 2).trans rfl; have hfz176_0 := blk_frozen BK429.out 0; have hfz176_1 := blk_frozen BK429.out 1; have hfz176_2 := blk_frozen BK429.out 2) | ((with_reducible refine gate_callee (f := 61) rfl ?_); refine goesL_ (some 306) rfl rfl Try.func61 (by kernel_rfl) rfl #[.agg #[.int .i64 t425, .int .i64 t426, .int .i64 t427], .int .i64 (wrap64 (t428 - 8))] rfl (by (try simp only [List.map_toArray, List.map_cons, List.map_nil]); first | done | rfl | (simp only [List.length_drop, List.length_take]; rfl)) ?_; (with_reducible refine (spec_LengthWound.calls t425 t426 t427 (wrap64 (t428 - 8)) t451 t452 _ A138.out).mono ?_); rintro e w177 ⟨rfl, hb⟩; refine ⟨_, rfl, ?_⟩; have n0_ := Aside0.mk (blk_below (g := gb394) (o := .cells #[.int .i64 t390, .int .i64 t391, .int .i64 t392] 64 (0, 0)) (by (with_reducible repeat (first | refine blk_drewN ?_ _ | refine blk_drew ?_ | refine blk_alloc ?_ _)); exact BK394.out) hb); have n1_ := Aside0.mk (blk_below (g := gb409) (o := .cells #[.int .i64 t403, .int .i64 t404, .int .i64 t405] 64 (0, 0)) (by (with_reducible repeat (first | refine blk_drewN ?_ _ | refine blk_drew ?_ | refine blk_alloc ?_ _)); exact BK409.out) hb); have n2_ := Aside0.mk (blk_below (g := gb420) (o := .cells #[.int .i64 t416, .int .i64 t417, .int .i64 t418] 64 (0, 0)) (by (with_reducible repeat (first | refine blk_drewN ?_ _ | refine blk_drew ?_ | refine blk_alloc ?_ _)); exact BK420.out) hb); have n3_ := Aside0.mk (blk_below (g := gb429) (o := .cells #[.int .i64 t425, .int .i64 t426, .int .i64 t427] 64 (0, 0)) (by (with_reducible repeat (first | refine blk_drewN ?_ _ | refine blk_drew ?_ | refine blk_alloc ?_ _)); exact BK429.out) hb); have n4_ := Aside0.mk (below_step (by repeat (first | (with_reducible first | exact HB.out | apply below_alloc | apply pw_below_drewN | apply below_drew1 | refine below_set ?_ GE394.out | refine below_set ?_ GE409.out | refine below_set ?_ GE420.out | refine below_set ?_ GE429.out) | exact HB.out)) hb); clear BK394; clear BK409; clear BK420; clear BK429; clear HB; have BK394 := n0_; have BK409 := n1_; have BK420 := n2_; have BK429 := n3_; have HB := n4_; clear n0_ n1_ n2_ n3_ n4_; (try clear hb); (try clear hb2); (try clear hk); (try clear hi)))
                    go_ret
                    exact ⟨by first | rfl | (simp [errW_none, errW_some] <;> rfl) | (simp [*, errW_none, errW_some] <;> rfl), by repeat (first | (with_reducible first | exact HB.out | apply below_alloc | apply pw_below_drewN | apply below_drew1 | refine below_set ?_ GE394.out | refine below_set ?_ GE409.out | refine below_set ?_ GE420.out | refine below_set ?_ GE429.out) | exact HB.out)⟩
                 ·replace c136 := Bool.eq_false_iff.mpr c136
                  subst c136
                  have H1 : (laws_FnSpools.j5 kj132 t393 t396 t397 t401 t390 t391 t392) = some r := by rw [if_neg (show ¬ (false = true) by decide)] at H; exact H
                  clear H
                  have H := H1
                  clear H1
                  have H' := Aside0.mk H
                  clear H
                  as_aux_lemma =>
                   go_wp2
                   (refine Met.intro ?_; go_step; (repeat (first | apply ex_32 | apply ex_8 | apply Exists.intro)); refine ⟨?rel, rfl⟩)
                   case rel => exact ⟨_, H', ⟨by have := HJ17.out; have := HJ65.out; have := HJ108.out; have := HJ132.out; first | omega | exact Nat.le_refl _⟩, ⟨by (with_reducible repeat (first | refine blk_drewN ?_ _ | refine blk_drew ?_ | refine blk_alloc ?_ _)); exact BK394.out⟩, ⟨by (with_reducible repeat (first | refine blk_drewN ?_ _ | refine blk_drew ?_ | refine blk_alloc ?_ _)); exact BK409.out⟩, ⟨by (with_reducible repeat (first | refine blk_drewN ?_ _ | refine blk_drew ?_ | refine blk_alloc ?_ _)); exact BK420.out⟩, ⟨by (with_reducible repeat (first | refine blk_drewN ?_ _ | refine blk_drew ?_ | refine blk_alloc ?_ _)); exact BK429.out⟩, ⟨by repeat (first | (with_reducible first | exact HB.out | apply below_alloc | apply pw_below_drewN | apply below_drew1 | refine below_set ?_ GE394.out | refine below_set ?_ GE409.out | refine below_set ?_ GE420.out | refine below_set ?_ GE429.out) | exact HB.out)⟩⟩
               case rest =>
                as_aux_lemma =>
                 clear HC135
                 (try clear c14); (try clear c15); (try clear c16); (try clear c17); (try clear c136); (try clear c139); (try clear c140); (try clear c141); (try clear c141b0); (try clear c141b1); (try clear c142); (try clear c142b0); (try clear c143); (try clear c144); (try clear c145); (try clear c150); (try clear c151); (try clear c152); (try clear c157); (try clear c158); (try clear c159); (try clear c164); (try clear c165); (try clear c166); (try clear c171); (try clear c172); (try clear c173); (try clear hcz146_0); (try clear hcz146_1); (try clear hcz146_2); (try clear hcz148_0); (try clear hcz148_1); (try clear hcz148_2); (try clear hcz153_0); (try clear hcz153_1); (try clear hcz153_2); (try clear hcz155_0); (try clear hcz155_1); (try clear hcz155_2); (try clear hcz160_0); (try clear hcz160_1); (try clear hcz160_2); (try clear hcz162_0); (try clear hcz162_1); (try clear hcz162_2); (try clear hcz167_0); (try clear hcz167_1); (try clear hcz167_2); (try clear hcz169_0); (try clear hcz169_1); (try clear hcz169_2); (try clear hcz174_0); (try clear hcz174_1); (try clear hcz174_2); (try clear hcz176_0); (try clear hcz176_1); (try clear hcz176_2); (try clear hfz146_0); (try clear hfz146_1); (try clear hfz146_2); (try clear hfz148_0); (try clear hfz148_1); (try clear hfz148_2); (try clear hfz153_0); (try clear hfz153_1); (try clear hfz153_2); (try clear hfz155_0); (try clear hfz155_1); (try clear hfz155_2); (try clear hfz160_0); (try clear hfz160_1); (try clear hfz160_2); (try clear hfz162_0); (try clear hfz162_1); (try clear hfz162_2); (try clear hfz167_0); (try clear hfz167_1); (try clear hfz167_2); (try clear hfz169_0); (try clear hfz169_1); (try clear hfz169_2); (try clear hfz174_0); (try clear hfz174_1); (try clear hfz174_2); (try clear hfz176_0); (try clear hfz176_1); (try clear hfz176_2)
                 obtain ⟨kq, HA, HJ134, BK394, BK409, BK420, BK429, HB⟩ := hcut
                 cases kq with
                 | zero => exact absurd HA.out (by simp [laws_FnSpools.j5])
                 | succ kj134 =>
                  have H := HA.out
                  clear HA
                  simp only [laws_FnSpools.j5] at H
                  by_cases c178 : t396 = true
                  ·subst c178
                   have H1 : ((impl_LengthWound.f t390 t391 t392 t397).bind fun bt453 => ((spec_LengthWound.f t390 t391 t392 t397).bind fun bt455 => (if bt453.2 = true then (if bt455.2 = true then (if bt453.1 = bt455.1 then (if bt455.1 < (wrap64 (8 * t393)) then (laws_FnSpools.j6 kj134 t393 t397 true t390 t391 t392) else (laws_FnSpools.j6 kj134 t393 t397 (t401 != (wrap64 (Int.tdiv (wrap64 (t397 + 7)) 8))) t390 t391 t392)) else (laws_FnSpools.j6 kj134 t393 t397 true t390 t391 t392)) else (laws_FnSpools.j6 kj134 t393 t397 true t390 t391 t392)) else (laws_FnSpools.j6 kj134 t393 t397 true t390 t391 t392)))) = some r := by rw [if_pos rfl] at H; exact H
                   clear H
                   have H := H1
                   clear H1
                   replace H := Option.bind_eq_some_iff.mp H
                   obtain ⟨⟨t453, t454⟩, A1790, H⟩ := H
                   (try dsimp only at H)
                   have A179 := Aside0.mk A1790
                   clear A1790
                   replace H := Option.bind_eq_some_iff.mp H
                   obtain ⟨⟨t455, t456⟩, A1800, H⟩ := H
                   (try dsimp only at H)
                   have A180 := Aside0.mk A1800
                   clear A1800
                   have HC181 := Aside0.mk H
                   clear H
                   have hnb182 := NB394_409.out
                   have hnc182 := NB409_394.out
                   have hnb183 := NB394_420.out
                   have hnc183 := NB420_394.out
                   have hnb184 := NB394_429.out
                   have hnc184 := NB429_394.out
                   have hcz185_0 : wc.cell? ⟨gb394, 0, none⟩ = some (.int .i64 t390) := (blk_cell BK394.out 0).trans rfl
                   have hcz185_1 : wc.cell? ⟨gb394, 1, none⟩ = some (.int .i64 t391) := (blk_cell BK394.out 1).trans rfl
                   have hcz185_2 : wc.cell? ⟨gb394, 2, none⟩ = some (.int .i64 t392) := (blk_cell BK394.out 2).trans rfl
                   have hfz185_0 := blk_frozen BK394.out 0
                   have hfz185_1 := blk_frozen BK394.out 1
                   have hfz185_2 := blk_frozen BK394.out 2
                   go_upto_region 44 with (first | ((with_reducible refine gate_callee (f := 60) rfl ?_); refine goesL_ (some 330) rfl rfl Try.func60 (by kernel_rfl) rfl #[.agg #[.int .i64 t390, .int .i64 t391, .int .i64 t392], .int .i64 t397] rfl (by (try simp only [List.map_toArray, List.map_cons, List.map_nil]); first | done | rfl | (simp only [List.length_drop, List.length_take]; rfl)) ?_; (with_reducible refine (impl_LengthWound.calls t390 t391 t392 t397 t453 t454 _ A179.out).mono ?_); rintro e w186 ⟨rfl, hb⟩; refine ⟨_, rfl, ?_⟩; have n0_ := Aside0.mk (blk_below (g := gb394) (o := .cells #[.int .i64 t390, .int .i64 t391, .int .i64 t392] 64 (0, 0)) (by (with_reducible repeat (first | refine blk_drewN ?_ _ | refine blk_drew ?_ | refine blk_alloc ?_ _)); exact BK394.out) hb); have n1_ := Aside0.mk (blk_below (g := gb409) (o := .cells #[.int .i64 t403, .int .i64 t404, .int .i64 t405] 64 (0, 0)) (by (with_reducible repeat (first | refine blk_drewN ?_ _ | refine blk_drew ?_ | refine blk_alloc ?_ _)); exact BK409.out) hb); have n2_ := Aside0.mk (blk_below (g := gb420) (o := .cells #[.int .i64 t416, .int .i64 t417, .int .i64 t418] 64 (0, 0)) (by (with_reducible repeat (first | refine blk_drewN ?_ _ | refine blk_drew ?_ | refine blk_alloc ?_ _)); exact BK420.out) hb); have n3_ := Aside0.mk (blk_below (g := gb429) (o := .cells #[.int .i64 t425, .int .i64 t426, .int .i64 t427] 64 (0, 0)) (by (with_reducible repeat (first | refine blk_drewN ?_ _ | refine blk_drew ?_ | refine blk_alloc ?_ _)); exact BK429.out) hb); have n4_ := Aside0.mk (below_step (by repeat (first | (with_reducible first | exact HB.out | apply below_alloc | apply pw_below_drewN | apply below_drew1 | refine below_set ?_ GE394.out | refine below_set ?_ GE409.out | refine below_set ?_ GE420.out | refine below_set ?_ GE429.out) | exact HB.out)) hb); clear BK394; clear BK409; clear BK420; clear BK429; clear HB; have BK394 := n0_; have BK409 := n1_; have BK420 := n2_; have BK429 := n3_; have HB := n4_; clear n0_ n1_ n2_ n3_ n4_; (try clear hb); (try clear hb2); (try clear hk); (try clear hi); have hcz187_0 : w186.cell? ⟨gb394, 0, none⟩ = some (.int .i64 t390) := (blk_cell BK394.out 0).trans rfl; have hcz187_1 : w186.cell? ⟨gb394, 1, none⟩ = some (.int .i64 t391) := (blk_cell BK394.out 1).trans rfl; have hcz187_2 : w186.cell? ⟨gb394, 2, none⟩ = some (.int .i64 t392) := (blk_cell BK394.out 2).trans rfl; have hfz187_0 := blk_frozen BK394.out 0; have hfz187_1 := blk_frozen BK394.out 1; have hfz187_2 := blk_frozen BK394.out 2) | ((with_reducible refine gate_callee (f := 61) rfl ?_); refine goesL_ (some 336) rfl rfl Try.func61 (by kernel_rfl) rfl #[.agg #[.int .i64 t390, .int .i64 t391, .int .i64 t392], .int .i64 t397] rfl (by (try simp only [List.map_toArray, List.map_cons, List.map_nil]); first | done | rfl | (simp only [List.length_drop, List.length_take]; rfl)) ?_; (with_reducible refine (spec_LengthWound.calls t390 t391 t392 t397 t455 t456 _ A180.out).mono ?_); rintro e w188 ⟨rfl, hb⟩; refine ⟨_, rfl, ?_⟩; have n0_ := Aside0.mk (blk_below (g := gb394) (o := .cells #[.int .i64 t390, .int .i64 t391, .int .i64 t392] 64 (0, 0)) (by (with_reducible repeat (first | refine blk_drewN ?_ _ | refine blk_drew ?_ | refine blk_alloc ?_ _)); exact BK394.out) hb); have n1_ := Aside0.mk (blk_below (g := gb409) (o := .cells #[.int .i64 t403, .int .i64 t404, .int .i64 t405] 64 (0, 0)) (by (with_reducible repeat (first | refine blk_drewN ?_ _ | refine blk_drew ?_ | refine blk_alloc ?_ _)); exact BK409.out) hb); have n2_ := Aside0.mk (blk_below (g := gb420) (o := .cells #[.int .i64 t416, .int .i64 t417, .int .i64 t418] 64 (0, 0)) (by (with_reducible repeat (first | refine blk_drewN ?_ _ | refine blk_drew ?_ | refine blk_alloc ?_ _)); exact BK420.out) hb); have n3_ := Aside0.mk (blk_below (g := gb429) (o := .cells #[.int .i64 t425, .int .i64 t426, .int .i64 t427] 64 (0, 0)) (by (with_reducible repeat (first | refine blk_drewN ?_ _ | refine blk_drew ?_ | refine blk_alloc ?_ _)); exact BK429.out) hb); have n4_ := Aside0.mk (below_step (by repeat (first | (with_reducible first | exact HB.out | apply below_alloc | apply pw_below_drewN | apply below_drew1 | refine below_set ?_ GE394.out | refine below_set ?_ GE409.out | refine below_set ?_ GE420.out | refine below_set ?_ GE429.out) | exact HB.out)) hb); clear BK394; clear BK409; clear BK420; clear BK429; clear HB; have BK394 := n0_; have BK409 := n1_; have BK420 := n2_; have BK429 := n3_; have HB := n4_; clear n0_ n1_ n2_ n3_ n4_; (try clear hb); (try clear hb2); (try clear hk); (try clear hi)))
                   (try simp only [Act.put, List.setIfInBounds_toArray, List.set_cons_zero, List.set_cons_succ])
                   go_cut [362] (fun v362 wc => ∃ (kq : Nat) (x362_180 : Bool), v362 = .bool x362_180 ∧ Aside0 (laws_FnSpools.j6 kq t393 t397 x362_180 t390 t391 t392 = some r) ∧ Aside0 (kq ≤ kj134) ∧ Aside0 (wc.heap[gb394]? = some (.cells #[.int .i64 t390, .int .i64 t391, .int .i64 t392] 64 (0, 0))) ∧ Aside0 (wc.heap[gb409]? = some (.cells #[.int .i64 t403, .int .i64 t404, .int .i64 t405] 64 (0, 0))) ∧ Aside0 (wc.heap[gb420]? = some (.cells #[.int .i64 t416, .int .i64 t417, .int .i64 t418] 64 (0, 0))) ∧ Aside0 (wc.heap[gb429]? = some (.cells #[.int .i64 t425, .int .i64 t426, .int .i64 t427] 64 (0, 0))) ∧ Aside0 (Below w.heap.size w wc))
                   case first =>
                    as_aux_lemma =>
                     have H := HC181.out
                     clear HC181
                     by_cases c189 : t454 = true
                     ·subst c189
                      have H1 : (if t456 = true then (if t453 = t455 then (if t455 < (wrap64 (8 * t393)) then (laws_FnSpools.j6 kj134 t393 t397 true t390 t391 t392) else (laws_FnSpools.j6 kj134 t393 t397 (t401 != (wrap64 (Int.tdiv (wrap64 (t397 + 7)) 8))) t390 t391 t392)) else (laws_FnSpools.j6 kj134 t393 t397 true t390 t391 t392)) else (laws_FnSpools.j6 kj134 t393 t397 true t390 t391 t392)) = some r := by rw [if_pos rfl] at H; exact H
                      clear H
                      have H := H1
                      clear H1
                      by_cases c190 : t456 = true
                      ·subst c190
                       have H1 : (if t453 = t455 then (if t455 < (wrap64 (8 * t393)) then (laws_FnSpools.j6 kj134 t393 t397 true t390 t391 t392) else (laws_FnSpools.j6 kj134 t393 t397 (t401 != (wrap64 (Int.tdiv (wrap64 (t397 + 7)) 8))) t390 t391 t392)) else (laws_FnSpools.j6 kj134 t393 t397 true t390 t391 t392)) = some r := by rw [if_pos rfl] at H; exact H
                       clear H
                       have H := H1
                       clear H1
                       by_cases c191 : t453 = t455
                       ·rw [if_pos c191] at H
                        have c191b0 : (t453 == t455) = true := beq_iff_eq.mpr c191
                        have c191b1 : (t453 != t455) = false := bne_eq_false_iff_eq.mpr c191
                        clear c191
                        (first | rw [c191b0] | (simp only [i64_w, i32_w]; rw [c191b0]) | skip)
                        by_cases c192 : t455 < (wrap64 (8 * t393))
                        ·rw [if_pos c192] at H
                         have c192b0 : decide (t455 < (wrap64 (8 * t393))) = true := decide_eq_true c192
                         clear c192
                         have H' := Aside0.mk H
                         clear H
                         as_aux_lemma =>
                          go_wp2
                          (refine Met.intro ?_; go_step; (repeat (first | apply ex_32 | apply ex_8 | apply Exists.intro)); refine ⟨?rel, rfl⟩)
                          case rel => exact ⟨_, (true), (by first | rfl | (simp; done) | (simp [*]; done)), H', ⟨by have := HJ17.out; have := HJ65.out; have := HJ108.out; have := HJ132.out; have := HJ134.out; first | omega | exact Nat.le_refl _⟩, ⟨by (with_reducible repeat (first | refine blk_drewN ?_ _ | refine blk_drew ?_ | refine blk_alloc ?_ _)); exact BK394.out⟩, ⟨by (with_reducible repeat (first | refine blk_drewN ?_ _ | refine blk_drew ?_ | refine blk_alloc ?_ _)); exact BK409.out⟩, ⟨by (with_reducible repeat (first | refine blk_drewN ?_ _ | refine blk_drew ?_ | refine blk_alloc ?_ _)); exact BK420.out⟩, ⟨by (with_reducible repeat (first | refine blk_drewN ?_ _ | refine blk_drew ?_ | refine blk_alloc ?_ _)); exact BK429.out⟩, ⟨by repeat (first | (with_reducible first | exact HB.out | apply below_alloc | apply pw_below_drewN | apply below_drew1 | refine below_set ?_ GE394.out | refine below_set ?_ GE409.out | refine below_set ?_ GE420.out | refine below_set ?_ GE429.out) | exact HB.out)⟩⟩
                        ·rw [if_neg c192] at H
                         have c192b0 : decide (t455 < (wrap64 (8 * t393))) = false := decide_eq_false c192
                         clear c192
                         have H' := Aside0.mk H
                         clear H
                         as_aux_lemma =>
                          go_wp2
                          (refine Met.intro ?_; go_step; (repeat (first | apply ex_32 | apply ex_8 | apply Exists.intro)); refine ⟨?rel, rfl⟩)
                          case rel => exact ⟨_, ((t401 != (wrap64 (Int.tdiv (wrap64 (t397 + 7)) 8)))), (by first | rfl | (simp; done) | (simp [*]; done)), H', ⟨by have := HJ17.out; have := HJ65.out; have := HJ108.out; have := HJ132.out; have := HJ134.out; first | omega | exact Nat.le_refl _⟩, ⟨by (with_reducible repeat (first | refine blk_drewN ?_ _ | refine blk_drew ?_ | refine blk_alloc ?_ _)); exact BK394.out⟩, ⟨by (with_reducible repeat (first | refine blk_drewN ?_ _ | refine blk_drew ?_ | refine blk_alloc ?_ _)); exact BK409.out⟩, ⟨by (with_reducible repeat (first | refine blk_drewN ?_ _ | refine blk_drew ?_ | refine blk_alloc ?_ _)); exact BK420.out⟩, ⟨by (with_reducible repeat (first | refine blk_drewN ?_ _ | refine blk_drew ?_ | refine blk_alloc ?_ _)); exact BK429.out⟩, ⟨by repeat (first | (with_reducible first | exact HB.out | apply below_alloc | apply pw_below_drewN | apply below_drew1 | refine below_set ?_ GE394.out | refine below_set ?_ GE409.out | refine below_set ?_ GE420.out | refine below_set ?_ GE429.out) | exact HB.out)⟩⟩
                       ·rw [if_neg c191] at H
                        have c191b0 : (t453 == t455) = false := beq_eq_false_iff_ne.mpr c191
                        have c191b1 : (t453 != t455) = true := bne_iff_ne.mpr c191
                        (first | rw [c191b0] | (simp only [i64_w, i32_w]; rw [c191b0]) | skip)
                        have H' := Aside0.mk H
                        clear H
                        as_aux_lemma =>
                         go_wp2
                         (refine Met.intro ?_; go_step; (repeat (first | apply ex_32 | apply ex_8 | apply Exists.intro)); refine ⟨?rel, rfl⟩)
                         case rel => exact ⟨_, (true), (by first | rfl | (simp; done) | (simp [*]; done)), H', ⟨by have := HJ17.out; have := HJ65.out; have := HJ108.out; have := HJ132.out; have := HJ134.out; first | omega | exact Nat.le_refl _⟩, ⟨by (with_reducible repeat (first | refine blk_drewN ?_ _ | refine blk_drew ?_ | refine blk_alloc ?_ _)); exact BK394.out⟩, ⟨by (with_reducible repeat (first | refine blk_drewN ?_ _ | refine blk_drew ?_ | refine blk_alloc ?_ _)); exact BK409.out⟩, ⟨by (with_reducible repeat (first | refine blk_drewN ?_ _ | refine blk_drew ?_ | refine blk_alloc ?_ _)); exact BK420.out⟩, ⟨by (with_reducible repeat (first | refine blk_drewN ?_ _ | refine blk_drew ?_ | refine blk_alloc ?_ _)); exact BK429.out⟩, ⟨by repeat (first | (with_reducible first | exact HB.out | apply below_alloc | apply pw_below_drewN | apply below_drew1 | refine below_set ?_ GE394.out | refine below_set ?_ GE409.out | refine below_set ?_ GE420.out | refine below_set ?_ GE429.out) | exact HB.out)⟩⟩
                      ·replace c190 := Bool.eq_false_iff.mpr c190
                       subst c190
                       have H1 : (laws_FnSpools.j6 kj134 t393 t397 true t390 t391 t392) = some r := by rw [if_neg (show ¬ (false = true) by decide)] at H; exact H
                       clear H
                       have H := H1
                       clear H1
                       have H' := Aside0.mk H
                       clear H
                       as_aux_lemma =>
                        go_wp2
                        (refine Met.intro ?_; go_step; (repeat (first | apply ex_32 | apply ex_8 | apply Exists.intro)); refine ⟨?rel, rfl⟩)
                        case rel => exact ⟨_, (true), (by first | rfl | (simp; done) | (simp [*]; done)), H', ⟨by have := HJ17.out; have := HJ65.out; have := HJ108.out; have := HJ132.out; have := HJ134.out; first | omega | exact Nat.le_refl _⟩, ⟨by (with_reducible repeat (first | refine blk_drewN ?_ _ | refine blk_drew ?_ | refine blk_alloc ?_ _)); exact BK394.out⟩, ⟨by (with_reducible repeat (first | refine blk_drewN ?_ _ | refine blk_drew ?_ | refine blk_alloc ?_ _)); exact BK409.out⟩, ⟨by (with_reducible repeat (first | refine blk_drewN ?_ _ | refine blk_drew ?_ | refine blk_alloc ?_ _)); exact BK420.out⟩, ⟨by (with_reducible repeat (first | refine blk_drewN ?_ _ | refine blk_drew ?_ | refine blk_alloc ?_ _)); exact BK429.out⟩, ⟨by repeat (first | (with_reducible first | exact HB.out | apply below_alloc | apply pw_below_drewN | apply below_drew1 | refine below_set ?_ GE394.out | refine below_set ?_ GE409.out | refine below_set ?_ GE420.out | refine below_set ?_ GE429.out) | exact HB.out)⟩⟩
                     ·replace c189 := Bool.eq_false_iff.mpr c189
                      subst c189
                      have H1 : (laws_FnSpools.j6 kj134 t393 t397 true t390 t391 t392) = some r := by rw [if_neg (show ¬ (false = true) by decide)] at H; exact H
                      clear H
                      have H := H1
                      clear H1
                      have H' := Aside0.mk H
                      clear H
                      as_aux_lemma =>
                       go_wp2
                       (refine Met.intro ?_; go_step; (repeat (first | apply ex_32 | apply ex_8 | apply Exists.intro)); refine ⟨?rel, rfl⟩)
                       case rel => exact ⟨_, (true), (by first | rfl | (simp; done) | (simp [*]; done)), H', ⟨by have := HJ17.out; have := HJ65.out; have := HJ108.out; have := HJ132.out; have := HJ134.out; first | omega | exact Nat.le_refl _⟩, ⟨by (with_reducible repeat (first | refine blk_drewN ?_ _ | refine blk_drew ?_ | refine blk_alloc ?_ _)); exact BK394.out⟩, ⟨by (with_reducible repeat (first | refine blk_drewN ?_ _ | refine blk_drew ?_ | refine blk_alloc ?_ _)); exact BK409.out⟩, ⟨by (with_reducible repeat (first | refine blk_drewN ?_ _ | refine blk_drew ?_ | refine blk_alloc ?_ _)); exact BK420.out⟩, ⟨by (with_reducible repeat (first | refine blk_drewN ?_ _ | refine blk_drew ?_ | refine blk_alloc ?_ _)); exact BK429.out⟩, ⟨by repeat (first | (with_reducible first | exact HB.out | apply below_alloc | apply pw_below_drewN | apply below_drew1 | refine below_set ?_ GE394.out | refine below_set ?_ GE409.out | refine below_set ?_ GE420.out | refine below_set ?_ GE429.out) | exact HB.out)⟩⟩
                   case rest =>
                    as_aux_lemma =>
                     clear HC181
                     (try clear c18); (try clear c19); (try clear c178); (try clear c182); (try clear c183); (try clear c184); (try clear c189); (try clear c190); (try clear c191); (try clear c191b0); (try clear c191b1); (try clear c192); (try clear c192b0); (try clear hcz185_0); (try clear hcz185_1); (try clear hcz185_2); (try clear hcz187_0); (try clear hcz187_1); (try clear hcz187_2); (try clear hfz185_0); (try clear hfz185_1); (try clear hfz185_2); (try clear hfz187_0); (try clear hfz187_1); (try clear hfz187_2)
                     obtain ⟨kq, x362_180, rfl, HA, HJ180, BK394, BK409, BK420, BK429, HB⟩ := hcut
                     cases kq with
                     | zero => exact absurd HA.out (by simp [laws_FnSpools.j6])
                     | succ kj180 =>
                      have H := HA.out
                      clear HA
                      simp only [laws_FnSpools.j6] at H
                      by_cases c193 : x362_180 = true
                      ·subst c193
                       have H1 : (some false) = some r := by rw [if_pos rfl] at H; exact H
                       clear H
                       have H := H1
                       clear H1
                       obtain rfl := Option.some.inj H
                       as_aux_lemma =>
                        go_wp2
                        go_ret
                        exact ⟨by first | rfl | (simp [errW_none, errW_some] <;> rfl) | (simp [*, errW_none, errW_some] <;> rfl), by repeat (first | (with_reducible first | exact HB.out | apply below_alloc | apply pw_below_drewN | apply below_drew1 | refine below_set ?_ GE394.out | refine below_set ?_ GE409.out | refine below_set ?_ GE420.out | refine below_set ?_ GE429.out) | exact HB.out)⟩
                      ·replace c193 := Bool.eq_false_iff.mpr c193
                       subst c193
                       have H1 : (if t397 > 0 then ((impl_LengthWound.f t390 t391 t392 (wrap64 (t397 - 1))).bind fun bt457 => (if bt457.2 = true then (if bt457.1 ≥ (wrap64 (8 * t393)) then (some false) else (some true)) else (some false))) else (some true)) = some r := by rw [if_neg (show ¬ (false = true) by decide)] at H; exact H
                       clear H
                       have H := H1
                       clear H1
                       by_cases c194 : t397 > 0
                       ·rw [if_pos c194] at H
                        have c194b0 : decide (0 < t397) = true := decide_eq_true c194
                        clear c194
                        replace H := Option.bind_eq_some_iff.mp H
                        obtain ⟨⟨t457, t458⟩, A1950, H⟩ := H
                        (try dsimp only at H)
                        have A195 := Aside0.mk A1950
                        clear A1950
                        by_cases c196 : t458 = true
                        ·subst c196
                         have H1 : (if t457 ≥ (wrap64 (8 * t393)) then (some false) else (some true)) = some r := by rw [if_pos rfl] at H; exact H
                         clear H
                         have H := H1
                         clear H1
                         by_cases c197 : t457 ≥ (wrap64 (8 * t393))
                         ·rw [if_pos c197] at H
                          have c197b0 : decide ((wrap64 (8 * t393)) ≤ t457) = true := decide_eq_true c197
                          clear c197
                          obtain rfl := Option.some.inj H
                          have hnb198 := NB394_409.out
                          have hnc198 := NB409_394.out
                          have hnb199 := NB394_420.out
                          have hnc199 := NB420_394.out
                          have hnb200 := NB394_429.out
                          have hnc200 := NB429_394.out
                          have hcz201_0 : wc.cell? ⟨gb394, 0, none⟩ = some (.int .i64 t390) := (blk_cell BK394.out 0).trans rfl
                          have hcz201_1 : wc.cell? ⟨gb394, 1, none⟩ = some (.int .i64 t391) := (blk_cell BK394.out 1).trans rfl
                          have hcz201_2 : wc.cell? ⟨gb394, 2, none⟩ = some (.int .i64 t392) := (blk_cell BK394.out 2).trans rfl
                          have hfz201_0 := blk_frozen BK394.out 0
                          have hfz201_1 := blk_frozen BK394.out 1
                          have hfz201_2 := blk_frozen BK394.out 2
                          as_aux_lemma =>
                           go_wp2_with (first | ((with_reducible refine gate_callee (f := 60) rfl ?_); refine goesL_ (some 369) rfl rfl Try.func60 (by kernel_rfl) rfl #[.agg #[.int .i64 t390, .int .i64 t391, .int .i64 t392], .int .i64 (wrap64 (t397 - 1))] rfl (by (try simp only [List.map_toArray, List.map_cons, List.map_nil]); first | done | rfl | (simp only [List.length_drop, List.length_take]; rfl)) ?_; (with_reducible refine (impl_LengthWound.calls t390 t391 t392 (wrap64 (t397 - 1)) t457 true _ A195.out).mono ?_); rintro e w202 ⟨rfl, hb⟩; refine ⟨_, rfl, ?_⟩; have n0_ := Aside0.mk (blk_below (g := gb394) (o := .cells #[.int .i64 t390, .int .i64 t391, .int .i64 t392] 64 (0, 0)) (by (with_reducible repeat (first | refine blk_drewN ?_ _ | refine blk_drew ?_ | refine blk_alloc ?_ _)); exact BK394.out) hb); have n1_ := Aside0.mk (blk_below (g := gb409) (o := .cells #[.int .i64 t403, .int .i64 t404, .int .i64 t405] 64 (0, 0)) (by (with_reducible repeat (first | refine blk_drewN ?_ _ | refine blk_drew ?_ | refine blk_alloc ?_ _)); exact BK409.out) hb); have n2_ := Aside0.mk (blk_below (g := gb420) (o := .cells #[.int .i64 t416, .int .i64 t417, .int .i64 t418] 64 (0, 0)) (by (with_reducible repeat (first | refine blk_drewN ?_ _ | refine blk_drew ?_ | refine blk_alloc ?_ _)); exact BK420.out) hb); have n3_ := Aside0.mk (blk_below (g := gb429) (o := .cells #[.int .i64 t425, .int .i64 t426, .int .i64 t427] 64 (0, 0)) (by (with_reducible repeat (first | refine blk_drewN ?_ _ | refine blk_drew ?_ | refine blk_alloc ?_ _)); exact BK429.out) hb); have n4_ := Aside0.mk (below_step (by repeat (first | (with_reducible first | exact HB.out | apply below_alloc | apply pw_below_drewN | apply below_drew1 | refine below_set ?_ GE394.out | refine below_set ?_ GE409.out | refine below_set ?_ GE420.out | refine below_set ?_ GE429.out) | exact HB.out)) hb); clear BK394; clear BK409; clear BK420; clear BK429; clear HB; have BK394 := n0_; have BK409 := n1_; have BK420 := n2_; have BK429 := n3_; have HB := n4_; clear n0_ n1_ n2_ n3_ n4_; (try clear hb); (try clear hb2); (try clear hk); (try clear hi)))
                           go_ret
                           exact ⟨by first | rfl | (simp [errW_none, errW_some] <;> rfl) | (simp [*, errW_none, errW_some] <;> rfl), by repeat (first | (with_reducible first | exact HB.out | apply below_alloc | apply pw_below_drewN | apply below_drew1 | refine below_set ?_ GE394.out | refine below_set ?_ GE409.out | refine below_set ?_ GE420.out | refine below_set ?_ GE429.out) | exact HB.out)⟩
                         ·rw [if_neg c197] at H
                          have c197b0 : decide ((wrap64 (8 * t393)) ≤ t457) = false := decide_eq_false c197
                          clear c197
                          obtain rfl := Option.some.inj H
                          have hnb203 := NB394_409.out
                          have hnc203 := NB409_394.out
                          have hnb204 := NB394_420.out
                          have hnc204 := NB420_394.out
                          have hnb205 := NB394_429.out
                          have hnc205 := NB429_394.out
                          have hcz206_0 : wc.cell? ⟨gb394, 0, none⟩ = some (.int .i64 t390) := (blk_cell BK394.out 0).trans rfl
                          have hcz206_1 : wc.cell? ⟨gb394, 1, none⟩ = some (.int .i64 t391) := (blk_cell BK394.out 1).trans rfl
                          have hcz206_2 : wc.cell? ⟨gb394, 2, none⟩ = some (.int .i64 t392) := (blk_cell BK394.out 2).trans rfl
                          have hfz206_0 := blk_frozen BK394.out 0
                          have hfz206_1 := blk_frozen BK394.out 1
                          have hfz206_2 := blk_frozen BK394.out 2
                          as_aux_lemma =>
                           go_wp2_with (first | ((with_reducible refine gate_callee (f := 60) rfl ?_); refine goesL_ (some 369) rfl rfl Try.func60 (by kernel_rfl) rfl #[.agg #[.int .i64 t390, .int .i64 t391, .int .i64 t392], .int .i64 (wrap64 (t397 - 1))] rfl (by (try simp only [List.map_toArray, List.map_cons, List.map_nil]); first | done | rfl | (simp only [List.length_drop, List.length_take]; rfl)) ?_; (with_reducible refine (impl_LengthWound.calls t390 t391 t392 (wrap64 (t397 - 1)) t457 true _ A195.out).mono ?_); rintro e w207 ⟨rfl, hb⟩; refine ⟨_, rfl, ?_⟩; have n0_ := Aside0.mk (blk_below (g := gb394) (o := .cells #[.int .i64 t390, .int .i64 t391, .int .i64 t392] 64 (0, 0)) (by (with_reducible repeat (first | refine blk_drewN ?_ _ | refine blk_drew ?_ | refine blk_alloc ?_ _)); exact BK394.out) hb); have n1_ := Aside0.mk (blk_below (g := gb409) (o := .cells #[.int .i64 t403, .int .i64 t404, .int .i64 t405] 64 (0, 0)) (by (with_reducible repeat (first | refine blk_drewN ?_ _ | refine blk_drew ?_ | refine blk_alloc ?_ _)); exact BK409.out) hb); have n2_ := Aside0.mk (blk_below (g := gb420) (o := .cells #[.int .i64 t416, .int .i64 t417, .int .i64 t418] 64 (0, 0)) (by (with_reducible repeat (first | refine blk_drewN ?_ _ | refine blk_drew ?_ | refine blk_alloc ?_ _)); exact BK420.out) hb); have n3_ := Aside0.mk (blk_below (g := gb429) (o := .cells #[.int .i64 t425, .int .i64 t426, .int .i64 t427] 64 (0, 0)) (by (with_reducible repeat (first | refine blk_drewN ?_ _ | refine blk_drew ?_ | refine blk_alloc ?_ _)); exact BK429.out) hb); have n4_ := Aside0.mk (below_step (by repeat (first | (with_reducible first | exact HB.out | apply below_alloc | apply pw_below_drewN | apply below_drew1 | refine below_set ?_ GE394.out | refine below_set ?_ GE409.out | refine below_set ?_ GE420.out | refine below_set ?_ GE429.out) | exact HB.out)) hb); clear BK394; clear BK409; clear BK420; clear BK429; clear HB; have BK394 := n0_; have BK409 := n1_; have BK420 := n2_; have BK429 := n3_; have HB := n4_; clear n0_ n1_ n2_ n3_ n4_; (try clear hb); (try clear hb2); (try clear hk); (try clear hi)))
                           go_ret
                           exact ⟨by first | rfl | (simp [errW_none, errW_some] <;> rfl) | (simp [*, errW_none, errW_some] <;> rfl), by repeat (first | (with_reducible first | exact HB.out | apply below_alloc | apply pw_below_drewN | apply below_drew1 | refine below_set ?_ GE394.out | refine below_set ?_ GE409.out | refine below_set ?_ GE420.out | refine below_set ?_ GE429.out) | exact HB.out)⟩
                        ·replace c196 := Bool.eq_false_iff.mpr c196
                         subst c196
                         have H1 : (some false) = some r := by rw [if_neg (show ¬ (false = true) by decide)] at H; exact H
                         clear H
                         have H := H1
                         clear H1
                         obtain rfl := Option.some.inj H
                         have hnb208 := NB394_409.out
                         have hnc208 := NB409_394.out
                         have hnb209 := NB394_420.out
                         have hnc209 := NB420_394.out
                         have hnb210 := NB394_429.out
                         have hnc210 := NB429_394.out
                         have hcz211_0 : wc.cell? ⟨gb394, 0, none⟩ = some (.int .i64 t390) := (blk_cell BK394.out 0).trans rfl
                         have hcz211_1 : wc.cell? ⟨gb394, 1, none⟩ = some (.int .i64 t391) := (blk_cell BK394.out 1).trans rfl
                         have hcz211_2 : wc.cell? ⟨gb394, 2, none⟩ = some (.int .i64 t392) := (blk_cell BK394.out 2).trans rfl
                         have hfz211_0 := blk_frozen BK394.out 0
                         have hfz211_1 := blk_frozen BK394.out 1
                         have hfz211_2 := blk_frozen BK394.out 2
                         as_aux_lemma =>
                          go_wp2_with (first | ((with_reducible refine gate_callee (f := 60) rfl ?_); refine goesL_ (some 369) rfl rfl Try.func60 (by kernel_rfl) rfl #[.agg #[.int .i64 t390, .int .i64 t391, .int .i64 t392], .int .i64 (wrap64 (t397 - 1))] rfl (by (try simp only [List.map_toArray, List.map_cons, List.map_nil]); first | done | rfl | (simp only [List.length_drop, List.length_take]; rfl)) ?_; (with_reducible refine (impl_LengthWound.calls t390 t391 t392 (wrap64 (t397 - 1)) t457 false _ A195.out).mono ?_); rintro e w212 ⟨rfl, hb⟩; refine ⟨_, rfl, ?_⟩; have n0_ := Aside0.mk (blk_below (g := gb394) (o := .cells #[.int .i64 t390, .int .i64 t391, .int .i64 t392] 64 (0, 0)) (by (with_reducible repeat (first | refine blk_drewN ?_ _ | refine blk_drew ?_ | refine blk_alloc ?_ _)); exact BK394.out) hb); have n1_ := Aside0.mk (blk_below (g := gb409) (o := .cells #[.int .i64 t403, .int .i64 t404, .int .i64 t405] 64 (0, 0)) (by (with_reducible repeat (first | refine blk_drewN ?_ _ | refine blk_drew ?_ | refine blk_alloc ?_ _)); exact BK409.out) hb); have n2_ := Aside0.mk (blk_below (g := gb420) (o := .cells #[.int .i64 t416, .int .i64 t417, .int .i64 t418] 64 (0, 0)) (by (with_reducible repeat (first | refine blk_drewN ?_ _ | refine blk_drew ?_ | refine blk_alloc ?_ _)); exact BK420.out) hb); have n3_ := Aside0.mk (blk_below (g := gb429) (o := .cells #[.int .i64 t425, .int .i64 t426, .int .i64 t427] 64 (0, 0)) (by (with_reducible repeat (first | refine blk_drewN ?_ _ | refine blk_drew ?_ | refine blk_alloc ?_ _)); exact BK429.out) hb); have n4_ := Aside0.mk (below_step (by repeat (first | (with_reducible first | exact HB.out | apply below_alloc | apply pw_below_drewN | apply below_drew1 | refine below_set ?_ GE394.out | refine below_set ?_ GE409.out | refine below_set ?_ GE420.out | refine below_set ?_ GE429.out) | exact HB.out)) hb); clear BK394; clear BK409; clear BK420; clear BK429; clear HB; have BK394 := n0_; have BK409 := n1_; have BK420 := n2_; have BK429 := n3_; have HB := n4_; clear n0_ n1_ n2_ n3_ n4_; (try clear hb); (try clear hb2); (try clear hk); (try clear hi)))
                          go_ret
                          exact ⟨by first | rfl | (simp [errW_none, errW_some] <;> rfl) | (simp [*, errW_none, errW_some] <;> rfl), by repeat (first | (with_reducible first | exact HB.out | apply below_alloc | apply pw_below_drewN | apply below_drew1 | refine below_set ?_ GE394.out | refine below_set ?_ GE409.out | refine below_set ?_ GE420.out | refine below_set ?_ GE429.out) | exact HB.out)⟩
                       ·rw [if_neg c194] at H
                        have c194b0 : decide (0 < t397) = false := decide_eq_false c194
                        clear c194
                        obtain rfl := Option.some.inj H
                        as_aux_lemma =>
                         go_wp2
                         go_ret
                         exact ⟨by first | rfl | (simp [errW_none, errW_some] <;> rfl) | (simp [*, errW_none, errW_some] <;> rfl), by repeat (first | (with_reducible first | exact HB.out | apply below_alloc | apply pw_below_drewN | apply below_drew1 | refine below_set ?_ GE394.out | refine below_set ?_ GE409.out | refine below_set ?_ GE420.out | refine below_set ?_ GE429.out) | exact HB.out)⟩
                  ·replace c178 := Bool.eq_false_iff.mpr c178
                   subst c178
                   have H1 : (some true) = some r := by rw [if_neg (show ¬ (false = true) by decide)] at H; exact H
                   clear H
                   have H := H1
                   clear H1
                   obtain rfl := Option.some.inj H
                   as_aux_lemma =>
                    go_wp2
                    go_ret
                    exact ⟨by first | rfl | (simp [errW_none, errW_some] <;> rfl) | (simp [*, errW_none, errW_some] <;> rfl), by repeat (first | (with_reducible first | exact HB.out | apply below_alloc | apply pw_below_drewN | apply below_drew1 | refine below_set ?_ GE394.out | refine below_set ?_ GE409.out | refine below_set ?_ GE420.out | refine below_set ?_ GE429.out) | exact HB.out)⟩

/-- THE ONE PURE STATEMENT of laws_FnSpools: yours. -/
def laws_FnSpools.Pure : Prop := ∀ (l0 : List Int) (l1 : List Int), l0.length ≤ maxLen → l0.length * 1 ≤ 140737488351232 → (∀ x ∈ l0, (Lit.int .u8 x).wf = true) → l1.length ≤ maxLen → l1.length * 1 ≤ 140737488351232 → (∀ x ∈ l1, (Lit.int .u8 x).wf = true) → ∃ k, laws_FnSpools.f k l0 l1 = some true
theorem laws_FnSpools.walk (P : laws_FnSpools.Pure) (a0 : Option Addr) (len0 cap0 : Nat) (z0 : List Int) (a1 : Option Addr) (len1 cap1 : Nat) (z1 : List Int) (w : World) (w0 : (a0 = none ∧ len0 = 0 ∧ cap0 = 0 ∧ z0 = []) ∨ ∃ x, a0 = some x ∧ len0 ≤ cap0 ∧ cap0 ≤ maxLen ∧ z0.length = cap0 ∧ (∀ i, i < z0.length → w.cell? (x.add i) = some (.int .u8 (z0.getD i 0))) ∧ ∀ n ∈ z0, (Lit.int .u8 n).wf = true) (y0 : len0 * 1 ≤ 140737488351232) (w1 : (a1 = none ∧ len1 = 0 ∧ cap1 = 0 ∧ z1 = []) ∨ ∃ x, a1 = some x ∧ len1 ≤ cap1 ∧ cap1 ≤ maxLen ∧ z1.length = cap1 ∧ (∀ i, i < z1.length → w.cell? (x.add i) = some (.int .u8 (z1.getD i 0))) ∧ ∀ n ∈ z1, (Lit.int .u8 n).wf = true) (y1 : len1 * 1 ≤ 140737488351232) :
  Calls Try.prog 10 #[.slice a0 len0 cap0, .slice a1 len1 cap1] w fun e w' => e = .returned (.bool true) ∧ Below w.heap.size w w' := by
 obtain ⟨l0, rfl, hr0, hm0, hw0, hc0⟩ := ReadsInt.ofRowC w0
 obtain ⟨l1, rfl, hr1, hm1, hw1, hc1⟩ := ReadsInt.ofRowC w1
 obtain ⟨k, h⟩ := P l0 l1 hm0 y0 hw0 hm1 y1 hw1
 refine (laws_FnSpools.calls k _ _ l0 _ _ l1 true w (Kd.C_of_reads (d := (0 : Int)) (h1 := fun _ => rfl) hr0) hc0 (Kd.C_of_reads (d := (0 : Int)) (h1 := fun _ => rfl) hr1) hc1 h).mono ?_
 rintro e w' ⟨rfl, hd⟩
 exact ⟨rfl, hd⟩

end Go.Proofs.Ytjogodnkcjhdiaa.PFnSpools
