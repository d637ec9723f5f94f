-- written by a program of this session: the kit's print, with outer functions of the session's own (wip/ext)
import Derived.Test.YtjogodnkcjhdiaaPFnCoresx0
import Derived.Test.YtjogodnkcjhdiaaPFnCoresx1
import Derived.Test.YtjogodnkcjhdiaaPFnCoresx2
import Derived.Test.YtjogodnkcjhdiaaPFnCoresx3
import Derived.Test.YtjogodnkcjhdiaaPFnCoresx4
import Derived.Test.YtjogodnkcjhdiaaPFnCoresx5
import Derived.Test.YtjogodnkcjhdiaaPFnCoresx6
import Derived.Test.YtjogodnkcjhdiaaPFnCoresx7
import Derived.Test.YtjogodnkcjhdiaaPFnCoresx8
namespace Go.Proofs.Ytjogodnkcjhdiaa.PFnCores
open Go.RowKit Go.Proofs.YtjogodnkcjhdiaaW.PrintWords Go.Proofs.YtjogodnkcjhdiaaW.PrintLast Go.Proofs.YtjogodnkcjhdiaaW.PrintMore
attribute [local go_sem] max2_int min2_int max_two min_two max_three min_three max_four min_four   -- for this text's walks alone
set_option linter.unusedVariables false
set_option linter.unusedSimpArgs false

/-! ### laws_FnCores: function 11 -/
mutual
def laws_FnCores.j0 : Nat → Int → Int → Int → Bool → Int → Bool → Int → Int → Bool → Int → Bool → Int → Bool → Int → Int → Int → Int → Int → Int → Int → Int → Int → Int → Int → Int → Int → Int → Int → Option (Bool)
 | 0, _, _, _, _, _, _, _, _, _, _, _, _, _, _, _, _, _, _, _, _, _, _, _, _, _, _, _, _ => none
 | k + 1, x5, x6, x7, x9, x10, x15, x16, x20, x22, x23, x27, x28, x206, x410000, x410001, x410002, x411000, x411001, x411002, x423000, x423001, x423002, x424000, x424001, x424002, x432000, x432001, x432002 => if x206 = true then (some false) else (if x15 = true then ((impl_CompareSpools.f k x411000 x411001 x411002 x410000 x410001 x410002).bind fun bt448 => (if bt448.2 = true then (if bt448.1 = (wrap64 (-x16)) then (laws_FnCores.j1 k x5 x6 x7 x9 x10 x20 x22 x23 x27 x28 x423000 x423001 x423002 x424000 x424001 x424002 x432000 x432001 x432002) else (some false)) else (some false))) else (laws_FnCores.j1 k x5 x6 x7 x9 x10 x20 x22 x23 x27 x28 x423000 x423001 x423002 x424000 x424001 x424002 x432000 x432001 x432002))
def laws_FnCores.j1 : Nat → Int → Int → Int → Bool → Int → Int → Bool → Int → Bool → Int → Int → Int → Int → Int → Int → Int → Int → Int → Int → Option (Bool)
 | 0, _, _, _, _, _, _, _, _, _, _, _, _, _, _, _, _, _, _, _ => none
 | k + 1, x5, x6, x7, x9, x10, x20, x22, x23, x27, x28, x423000, x423001, x423002, x424000, x424001, x424002, x432000, x432001, x432002 => if x22 = true then ((impl_LengthWound.f x423000 x423001 x423002 x20).bind fun bt450 => ((spec_LengthWound.f x423000 x423001 x423002 x20).bind fun bt452 => ((impl_LengthWound.f x424000 x424001 x424002 x23).bind fun bt454 => (if bt450.2 = true then (if bt452.2 = true then (if bt450.1 = bt452.1 then (if bt454.2 = true then (laws_FnCores.j2 k x5 x6 x7 x9 x10 x23 x27 x28 bt452.1 (decide (bt454.1 < bt452.1)) x424000 x424001 x424002 x432000 x432001 x432002) else (laws_FnCores.j2 k x5 x6 x7 x9 x10 x23 x27 x28 bt452.1 true x424000 x424001 x424002 x432000 x432001 x432002)) else (laws_FnCores.j2 k x5 x6 x7 x9 x10 x23 x27 x28 bt452.1 true x424000 x424001 x424002 x432000 x432001 x432002)) else (laws_FnCores.j2 k x5 x6 x7 x9 x10 x23 x27 x28 bt452.1 true x424000 x424001 x424002 x432000 x432001 x432002)) else (laws_FnCores.j2 k x5 x6 x7 x9 x10 x23 x27 x28 bt452.1 true x424000 x424001 x424002 x432000 x432001 x432002))))) else (laws_FnCores.j3 k x5 x6 x7 x9 x10 x27 x28 x432000 x432001 x432002)
def laws_FnCores.j3 : Nat → Int → Int → Int → Bool → Int → Bool → Int → Int → Int → Int → Option (Bool)
 | 0, _, _, _, _, _, _, _, _, _, _ => none
 | k + 1, x5, x6, x7, x9, x10, x27, x28, x432000, x432001, x432002 => if x27 = true then ((impl_LengthWound.f x432000 x432001 x432002 (wrap64 (8 * x432002))).bind fun bt458 => (if bt458.2 = true then (if bt458.1 = (wrap64 (8 * x28)) then (laws_FnCores.j4 k x5 x6 x7 x9 x10) else (some false)) else (some false))) else (laws_FnCores.j4 k x5 x6 x7 x9 x10)
def laws_FnCores.j4 : Nat → Int → Int → Int → Bool → Int → Option (Bool)
 | 0, _, _, _, _, _ => none
 | k + 1, x5, x6, x7, x9, x10 => if x9 = true then ((impl_LengthOf.f x10 x5 x6).bind fun bt460 => (if bt460.2 = true then (laws_FnCores.j5 k x5 x6 x7 x10 (decide (bt460.1 < x7))) else (laws_FnCores.j5 k x5 x6 x7 x10 true))) else (some true)
def laws_FnCores.j5 : Nat → Int → Int → Int → Int → Bool → Option (Bool)
 | 0, _, _, _, _, _ => none
 | k + 1, x5, x6, x7, x10, x310 => if x310 = true then (some false) else (if x10 > 100 then ((impl_LengthOf.f (wrap64 (x10 - 1)) x5 x6).bind fun bt462 => (if bt462.2 = true then (some (decide (bt462.1 < x7))) else (some false))) else (some true))
def laws_FnCores.j2 : Nat → Int → Int → Int → Bool → Int → Int → Bool → Int → Int → Bool → Int → Int → Int → Int → Int → Int → Option (Bool)
 | 0, _, _, _, _, _, _, _, _, _, _, _, _, _, _, _, _ => none
 | k + 1, x5, x6, x7, x9, x10, x23, x27, x28, x42, x260, x424000, x424001, x424002, x432000, x432001, x432002 => if x260 = true then (some false) else (if x23 > 0 then ((impl_LengthWound.f x424000 x424001 x424002 (wrap64 (x23 - 1))).bind fun bt456 => (if bt456.2 = true then (if bt456.1 ≥ x42 then (some false) else (laws_FnCores.j3 k x5 x6 x7 x9 x10 x27 x28 x432000 x432001 x432002)) else (some false))) else (laws_FnCores.j3 k x5 x6 x7 x9 x10 x27 x28 x432000 x432001 x432002))
end
def laws_FnCores.f (k : Nat) (l0 : List Int) (l1 : List Int) : Option (Bool) := if (wrap64 ((l0.length : Int) + (l1.length : Int))) > 1048576 then (some true) else ((spec_DrawLeastCore.f k l0).bind fun bt396 => ((impl_LeastCore.f k bt396.1 bt396.2.1 bt396.2.2).bind fun bt399 => ((spec_LeastCore.f k bt396.1 bt396.2.1 bt396.2.2).bind fun bt401 => ((spec_DrawCompareSpools.f l1).bind fun bt403 => ((impl_CompareSpools.f k bt403.1 bt403.2.1 bt403.2.2.1 bt403.2.2.2.1 bt403.2.2.2.2.1 bt403.2.2.2.2.2).bind fun bt411 => ((spec_CompareSpools.f k bt403.1 bt403.2.1 bt403.2.2.1 bt403.2.2.2.1 bt403.2.2.2.2.1 bt403.2.2.2.2.2).bind fun bt413 => ((spec_DrawRewindEighths.f l1).bind fun bt415 => ((impl_RewindEighths.f k bt415.1 bt415.2.1 bt415.2.2.1 bt415.2.2.2.1 bt415.2.2.2.2.1 bt415.2.2.2.2.2.1 bt415.2.2.2.2.2.2).bind fun bt424 => ((spec_RewindEighths.f k bt415.1 bt415.2.1 bt415.2.2.1 bt415.2.2.2.1 bt415.2.2.2.2.1 bt415.2.2.2.2.2.1 bt415.2.2.2.2.2.2).bind fun bt426 => ((spec_DrawLengthOf.f l1).bind fun bt428 => ((impl_LengthOf.f bt428.1 bt428.2.1 bt428.2.2).bind fun bt432 => ((spec_LengthOf.f bt428.1 bt428.2.1 bt428.2.2).bind fun bt434 => ((spec_DrawSpeedRatio.f l1).bind fun bt436 => ((impl_SpeedRatio.f k bt436.1 bt436.2.1 bt436.2.2.1 bt436.2.2.2).bind fun bt441 => ((spec_SpeedRatio.f k bt436.1 bt436.2.1 bt436.2.2.1 bt436.2.2.2).bind fun bt444 => (if (bt399.2 != bt401.2) = true then (laws_FnCores.j0 k bt396.1 bt396.2.1 bt396.2.2 bt399.2 bt401.1 bt411.2 bt413.1 bt415.2.2.2.2.2.2 bt424.2 bt426.1 bt432.2 bt434.1 true bt403.1 bt403.2.1 bt403.2.2.1 bt403.2.2.2.1 bt403.2.2.2.2.1 bt403.2.2.2.2.2 bt415.1 bt415.2.1 bt415.2.2.1 bt415.2.2.2.1 bt415.2.2.2.2.1 bt415.2.2.2.2.2.1 bt428.1 bt428.2.1 bt428.2.2) else (if bt399.1 = bt401.1 then (if (bt411.2 != bt413.2) = true then (laws_FnCores.j0 k bt396.1 bt396.2.1 bt396.2.2 bt399.2 bt401.1 bt411.2 bt413.1 bt415.2.2.2.2.2.2 bt424.2 bt426.1 bt432.2 bt434.1 true bt403.1 bt403.2.1 bt403.2.2.1 bt403.2.2.2.1 bt403.2.2.2.2.1 bt403.2.2.2.2.2 bt415.1 bt415.2.1 bt415.2.2.1 bt415.2.2.2.1 bt415.2.2.2.2.1 bt415.2.2.2.2.2.1 bt428.1 bt428.2.1 bt428.2.2) else (if bt411.1 = bt413.1 then (if (bt424.2 != bt426.2) = true then (laws_FnCores.j0 k bt396.1 bt396.2.1 bt396.2.2 bt399.2 bt401.1 bt411.2 bt413.1 bt415.2.2.2.2.2.2 bt424.2 bt426.1 bt432.2 bt434.1 true bt403.1 bt403.2.1 bt403.2.2.1 bt403.2.2.2.1 bt403.2.2.2.2.1 bt403.2.2.2.2.2 bt415.1 bt415.2.1 bt415.2.2.1 bt415.2.2.2.1 bt415.2.2.2.2.1 bt415.2.2.2.2.2.1 bt428.1 bt428.2.1 bt428.2.2) else (if bt424.1 = bt426.1 then (if (bt432.2 != bt434.2) = true then (laws_FnCores.j0 k bt396.1 bt396.2.1 bt396.2.2 bt399.2 bt401.1 bt411.2 bt413.1 bt415.2.2.2.2.2.2 bt424.2 bt426.1 bt432.2 bt434.1 true bt403.1 bt403.2.1 bt403.2.2.1 bt403.2.2.2.1 bt403.2.2.2.2.1 bt403.2.2.2.2.2 bt415.1 bt415.2.1 bt415.2.2.1 bt415.2.2.2.1 bt415.2.2.2.2.1 bt415.2.2.2.2.2.1 bt428.1 bt428.2.1 bt428.2.2) else (if bt432.1 = bt434.1 then (if (bt441.2.2 != bt444.2.2) = true then (laws_FnCores.j0 k bt396.1 bt396.2.1 bt396.2.2 bt399.2 bt401.1 bt411.2 bt413.1 bt415.2.2.2.2.2.2 bt424.2 bt426.1 bt432.2 bt434.1 true bt403.1 bt403.2.1 bt403.2.2.1 bt403.2.2.2.1 bt403.2.2.2.2.1 bt403.2.2.2.2.2 bt415.1 bt415.2.1 bt415.2.2.1 bt415.2.2.2.1 bt415.2.2.2.2.1 bt415.2.2.2.2.2.1 bt428.1 bt428.2.1 bt428.2.2) else (if bt441.1 = bt444.1 then (if bt441.2.1 = bt444.2.1 then ((impl_IsSpool.f bt428.1 bt428.2.1 bt428.2.2).bind fun t447 => (laws_FnCores.j0 k bt396.1 bt396.2.1 bt396.2.2 bt399.2 bt401.1 bt411.2 bt413.1 bt415.2.2.2.2.2.2 bt424.2 bt426.1 bt432.2 bt434.1 (t447 != bt432.2) bt403.1 bt403.2.1 bt403.2.2.1 bt403.2.2.2.1 bt403.2.2.2.2.1 bt403.2.2.2.2.2 bt415.1 bt415.2.1 bt415.2.2.1 bt415.2.2.2.1 bt415.2.2.2.2.1 bt415.2.2.2.2.2.1 bt428.1 bt428.2.1 bt428.2.2)) else (laws_FnCores.j0 k bt396.1 bt396.2.1 bt396.2.2 bt399.2 bt401.1 bt411.2 bt413.1 bt415.2.2.2.2.2.2 bt424.2 bt426.1 bt432.2 bt434.1 true bt403.1 bt403.2.1 bt403.2.2.1 bt403.2.2.2.1 bt403.2.2.2.2.1 bt403.2.2.2.2.2 bt415.1 bt415.2.1 bt415.2.2.1 bt415.2.2.2.1 bt415.2.2.2.2.1 bt415.2.2.2.2.2.1 bt428.1 bt428.2.1 bt428.2.2)) else (laws_FnCores.j0 k bt396.1 bt396.2.1 bt396.2.2 bt399.2 bt401.1 bt411.2 bt413.1 bt415.2.2.2.2.2.2 bt424.2 bt426.1 bt432.2 bt434.1 true bt403.1 bt403.2.1 bt403.2.2.1 bt403.2.2.2.1 bt403.2.2.2.2.1 bt403.2.2.2.2.2 bt415.1 bt415.2.1 bt415.2.2.1 bt415.2.2.2.1 bt415.2.2.2.2.1 bt415.2.2.2.2.2.1 bt428.1 bt428.2.1 bt428.2.2))) else (laws_FnCores.j0 k bt396.1 bt396.2.1 bt396.2.2 bt399.2 bt401.1 bt411.2 bt413.1 bt415.2.2.2.2.2.2 bt424.2 bt426.1 bt432.2 bt434.1 true bt403.1 bt403.2.1 bt403.2.2.1 bt403.2.2.2.1 bt403.2.2.2.2.1 bt403.2.2.2.2.2 bt415.1 bt415.2.1 bt415.2.2.1 bt415.2.2.2.1 bt415.2.2.2.2.1 bt415.2.2.2.2.2.1 bt428.1 bt428.2.1 bt428.2.2))) else (laws_FnCores.j0 k bt396.1 bt396.2.1 bt396.2.2 bt399.2 bt401.1 bt411.2 bt413.1 bt415.2.2.2.2.2.2 bt424.2 bt426.1 bt432.2 bt434.1 true bt403.1 bt403.2.1 bt403.2.2.1 bt403.2.2.2.1 bt403.2.2.2.2.1 bt403.2.2.2.2.2 bt415.1 bt415.2.1 bt415.2.2.1 bt415.2.2.2.1 bt415.2.2.2.2.1 bt415.2.2.2.2.2.1 bt428.1 bt428.2.1 bt428.2.2))) else (laws_FnCores.j0 k bt396.1 bt396.2.1 bt396.2.2 bt399.2 bt401.1 bt411.2 bt413.1 bt415.2.2.2.2.2.2 bt424.2 bt426.1 bt432.2 bt434.1 true bt403.1 bt403.2.1 bt403.2.2.1 bt403.2.2.2.1 bt403.2.2.2.2.1 bt403.2.2.2.2.2 bt415.1 bt415.2.1 bt415.2.2.1 bt415.2.2.2.1 bt415.2.2.2.2.1 bt415.2.2.2.2.2.1 bt428.1 bt428.2.1 bt428.2.2))) else (laws_FnCores.j0 k bt396.1 bt396.2.1 bt396.2.2 bt399.2 bt401.1 bt411.2 bt413.1 bt415.2.2.2.2.2.2 bt424.2 bt426.1 bt432.2 bt434.1 true bt403.1 bt403.2.1 bt403.2.2.1 bt403.2.2.2.1 bt403.2.2.2.2.1 bt403.2.2.2.2.2 bt415.1 bt415.2.1 bt415.2.2.1 bt415.2.2.2.1 bt415.2.2.2.2.1 bt415.2.2.2.2.2.1 bt428.1 bt428.2.1 bt428.2.2))))))))))))))))))
set_option maxHeartbeats 8000000 in
set_option maxRecDepth 100000 in
theorem laws_FnCores.calls (k : Nat) (A0 : Option Addr) (c0 : Nat) (l0 : List Int) (A1 : Option Addr) (c1 : Nat) (l1 : List Int) (r : Bool) (w : World) (hr0 : Kd.C (Kd.int .u8) w A0 l0.length l0) (hc0 : l0.length ≤ c0) (hr1 : Kd.C (Kd.int .u8) w A1 l1.length l1) (hc1 : l1.length ≤ c1) (h : laws_FnCores.f k l0 l1 = some r) :
  Calls Try.prog 11 #[.slice A0 l0.length c0, .slice A1 l1.length c1] w fun e w' => e = .returned (.bool r) ∧ Below w.heap.size w w' := by
 have hu64 := Try.underlying64
 have HR0 := Aside0.mk hr0
 have HC0 := Aside0.mk hc0
 clear hr0 hc0
 have HR1 := Aside0.mk hr1
 have HC1 := Aside0.mk hc1
 clear hr1 hc1
 have HB := Aside0.mk (Below.refl w.heap.size w)
 have H : (if (wrap64 ((l0.length : Int) + (l1.length : Int))) > 1048576 then (some true) else ((spec_DrawLeastCore.f k l0).bind fun bt396 => ((impl_LeastCore.f k bt396.1 bt396.2.1 bt396.2.2).bind fun bt399 => ((spec_LeastCore.f k bt396.1 bt396.2.1 bt396.2.2).bind fun bt401 => ((spec_DrawCompareSpools.f l1).bind fun bt403 => ((impl_CompareSpools.f k bt403.1 bt403.2.1 bt403.2.2.1 bt403.2.2.2.1 bt403.2.2.2.2.1 bt403.2.2.2.2.2).bind fun bt411 => ((spec_CompareSpools.f k bt403.1 bt403.2.1 bt403.2.2.1 bt403.2.2.2.1 bt403.2.2.2.2.1 bt403.2.2.2.2.2).bind fun bt413 => ((spec_DrawRewindEighths.f l1).bind fun bt415 => ((impl_RewindEighths.f k bt415.1 bt415.2.1 bt415.2.2.1 bt415.2.2.2.1 bt415.2.2.2.2.1 bt415.2.2.2.2.2.1 bt415.2.2.2.2.2.2).bind fun bt424 => ((spec_RewindEighths.f k bt415.1 bt415.2.1 bt415.2.2.1 bt415.2.2.2.1 bt415.2.2.2.2.1 bt415.2.2.2.2.2.1 bt415.2.2.2.2.2.2).bind fun bt426 => ((spec_DrawLengthOf.f l1).bind fun bt428 => ((impl_LengthOf.f bt428.1 bt428.2.1 bt428.2.2).bind fun bt432 => ((spec_LengthOf.f bt428.1 bt428.2.1 bt428.2.2).bind fun bt434 => ((spec_DrawSpeedRatio.f l1).bind fun bt436 => ((impl_SpeedRatio.f k bt436.1 bt436.2.1 bt436.2.2.1 bt436.2.2.2).bind fun bt441 => ((spec_SpeedRatio.f k bt436.1 bt436.2.1 bt436.2.2.1 bt436.2.2.2).bind fun bt444 => (if (bt399.2 != bt401.2) = true then (laws_FnCores.j0 k bt396.1 bt396.2.1 bt396.2.2 bt399.2 bt401.1 bt411.2 bt413.1 bt415.2.2.2.2.2.2 bt424.2 bt426.1 bt432.2 bt434.1 true bt403.1 bt403.2.1 bt403.2.2.1 bt403.2.2.2.1 bt403.2.2.2.2.1 bt403.2.2.2.2.2 bt415.1 bt415.2.1 bt415.2.2.1 bt415.2.2.2.1 bt415.2.2.2.2.1 bt415.2.2.2.2.2.1 bt428.1 bt428.2.1 bt428.2.2) else (if bt399.1 = bt401.1 then (if (bt411.2 != bt413.2) = true then (laws_FnCores.j0 k bt396.1 bt396.2.1 bt396.2.2 bt399.2 bt401.1 bt411.2 bt413.1 bt415.2.2.2.2.2.2 bt424.2 bt426.1 bt432.2 bt434.1 true bt403.1 bt403.2.1 bt403.2.2.1 bt403.2.2.2.1 bt403.2.2.2.2.1 bt403.2.2.2.2.2 bt415.1 bt415.2.1 bt415.2.2.1 bt415.2.2.2.1 bt415.2.2.2.2.1 bt415.2.2.2.2.2.1 bt428.1 bt428.2.1 bt428.2.2) else (if bt411.1 = bt413.1 then (if (bt424.2 != bt426.2) = true then (laws_FnCores.j0 k bt396.1 bt396.2.1 bt396.2.2 bt399.2 bt401.1 bt411.2 bt413.1 bt415.2.2.2.2.2.2 bt424.2 bt426.1 bt432.2 bt434.1 true bt403.1 bt403.2.1 bt403.2.2.1 bt403.2.2.2.1 bt403.2.2.2.2.1 bt403.2.2.2.2.2 bt415.1 bt415.2.1 bt415.2.2.1 bt415.2.2.2.1 bt415.2.2.2.2.1 bt415.2.2.2.2.2.1 bt428.1 bt428.2.1 bt428.2.2) else (if bt424.1 = bt426.1 then (if (bt432.2 != bt434.2) = true then (laws_FnCores.j0 k bt396.1 bt396.2.1 bt396.2.2 bt399.2 bt401.1 bt411.2 bt413.1 bt415.2.2.2.2.2.2 bt424.2 bt426.1 bt432.2 bt434.1 true bt403.1 bt403.2.1 bt403.2.2.1 bt403.2.2.2.1 bt403.2.2.2.2.1 bt403.2.2.2.2.2 bt415.1 bt415.2.1 bt415.2.2.1 bt415.2.2.2.1 bt415.2.2.2.2.1 bt415.2.2.2.2.2.1 bt428.1 bt428.2.1 bt428.2.2) else (if bt432.1 = bt434.1 then (if (bt441.2.2 != bt444.2.2) = true then (laws_FnCores.j0 k bt396.1 bt396.2.1 bt396.2.2 bt399.2 bt401.1 bt411.2 bt413.1 bt415.2.2.2.2.2.2 bt424.2 bt426.1 bt432.2 bt434.1 true bt403.1 bt403.2.1 bt403.2.2.1 bt403.2.2.2.1 bt403.2.2.2.2.1 bt403.2.2.2.2.2 bt415.1 bt415.2.1 bt415.2.2.1 bt415.2.2.2.1 bt415.2.2.2.2.1 bt415.2.2.2.2.2.1 bt428.1 bt428.2.1 bt428.2.2) else (if bt441.1 = bt444.1 then (if bt441.2.1 = bt444.2.1 then ((impl_IsSpool.f bt428.1 bt428.2.1 bt428.2.2).bind fun t447 => (laws_FnCores.j0 k bt396.1 bt396.2.1 bt396.2.2 bt399.2 bt401.1 bt411.2 bt413.1 bt415.2.2.2.2.2.2 bt424.2 bt426.1 bt432.2 bt434.1 (t447 != bt432.2) bt403.1 bt403.2.1 bt403.2.2.1 bt403.2.2.2.1 bt403.2.2.2.2.1 bt403.2.2.2.2.2 bt415.1 bt415.2.1 bt415.2.2.1 bt415.2.2.2.1 bt415.2.2.2.2.1 bt415.2.2.2.2.2.1 bt428.1 bt428.2.1 bt428.2.2)) else (laws_FnCores.j0 k bt396.1 bt396.2.1 bt396.2.2 bt399.2 bt401.1 bt411.2 bt413.1 bt415.2.2.2.2.2.2 bt424.2 bt426.1 bt432.2 bt434.1 true bt403.1 bt403.2.1 bt403.2.2.1 bt403.2.2.2.1 bt403.2.2.2.2.1 bt403.2.2.2.2.2 bt415.1 bt415.2.1 bt415.2.2.1 bt415.2.2.2.1 bt415.2.2.2.2.1 bt415.2.2.2.2.2.1 bt428.1 bt428.2.1 bt428.2.2)) else (laws_FnCores.j0 k bt396.1 bt396.2.1 bt396.2.2 bt399.2 bt401.1 bt411.2 bt413.1 bt415.2.2.2.2.2.2 bt424.2 bt426.1 bt432.2 bt434.1 true bt403.1 bt403.2.1 bt403.2.2.1 bt403.2.2.2.1 bt403.2.2.2.2.1 bt403.2.2.2.2.2 bt415.1 bt415.2.1 bt415.2.2.1 bt415.2.2.2.1 bt415.2.2.2.2.1 bt415.2.2.2.2.2.1 bt428.1 bt428.2.1 bt428.2.2))) else (laws_FnCores.j0 k bt396.1 bt396.2.1 bt396.2.2 bt399.2 bt401.1 bt411.2 bt413.1 bt415.2.2.2.2.2.2 bt424.2 bt426.1 bt432.2 bt434.1 true bt403.1 bt403.2.1 bt403.2.2.1 bt403.2.2.2.1 bt403.2.2.2.2.1 bt403.2.2.2.2.2 bt415.1 bt415.2.1 bt415.2.2.1 bt415.2.2.2.1 bt415.2.2.2.2.1 bt415.2.2.2.2.2.1 bt428.1 bt428.2.1 bt428.2.2))) else (laws_FnCores.j0 k bt396.1 bt396.2.1 bt396.2.2 bt399.2 bt401.1 bt411.2 bt413.1 bt415.2.2.2.2.2.2 bt424.2 bt426.1 bt432.2 bt434.1 true bt403.1 bt403.2.1 bt403.2.2.1 bt403.2.2.2.1 bt403.2.2.2.2.1 bt403.2.2.2.2.2 bt415.1 bt415.2.1 bt415.2.2.1 bt415.2.2.2.1 bt415.2.2.2.2.1 bt415.2.2.2.2.2.1 bt428.1 bt428.2.1 bt428.2.2))) else (laws_FnCores.j0 k bt396.1 bt396.2.1 bt396.2.2 bt399.2 bt401.1 bt411.2 bt413.1 bt415.2.2.2.2.2.2 bt424.2 bt426.1 bt432.2 bt434.1 true bt403.1 bt403.2.1 bt403.2.2.1 bt403.2.2.2.1 bt403.2.2.2.2.1 bt403.2.2.2.2.2 bt415.1 bt415.2.1 bt415.2.2.1 bt415.2.2.2.1 bt415.2.2.2.2.1 bt415.2.2.2.2.2.1 bt428.1 bt428.2.1 bt428.2.2))) else (laws_FnCores.j0 k bt396.1 bt396.2.1 bt396.2.2 bt399.2 bt401.1 bt411.2 bt413.1 bt415.2.2.2.2.2.2 bt424.2 bt426.1 bt432.2 bt434.1 true bt403.1 bt403.2.1 bt403.2.2.1 bt403.2.2.2.1 bt403.2.2.2.2.1 bt403.2.2.2.2.2 bt415.1 bt415.2.1 bt415.2.2.1 bt415.2.2.2.1 bt415.2.2.2.2.1 bt415.2.2.2.2.2.1 bt428.1 bt428.2.1 bt428.2.2))))))))))))))))))) = some r := h
 clear h
 by_cases c3 : (wrap64 ((l0.length : Int) + (l1.length : Int))) > 1048576
 ·rw [if_pos c3] at H
  have c3b0 : decide (1048576 < (wrap64 ((l0.length : Int) + (l1.length : Int)))) = true := decide_eq_true c3
  clear c3
  obtain rfl := Option.some.inj H
  go_enter Try.func11, Try.ntmps11
  as_aux_lemma =>
   go_wp2
   go_ret
   exact ⟨by first | rfl | (simp [errW_none, errW_some] <;> rfl) | (simp [*, errW_none, errW_some] <;> rfl), by repeat (first | (with_reducible first | exact HB.out | apply below_alloc | apply pw_below_drewN | apply below_drew1) | exact HB.out)⟩
 ·rw [if_neg c3] at H
  have c3b0 : decide (1048576 < (wrap64 ((l0.length : Int) + (l1.length : Int)))) = false := decide_eq_false c3
  clear c3
  replace H := Option.bind_eq_some_iff.mp H
  obtain ⟨⟨t396, t397, t398⟩, A40, H⟩ := H
  (try dsimp only at H)
  have A4 := Aside0.mk A40
  clear A40
  replace H := Option.bind_eq_some_iff.mp H
  obtain ⟨⟨t399, t400⟩, A50, H⟩ := H
  (try dsimp only at H)
  have A5 := Aside0.mk A50
  clear A50
  replace H := Option.bind_eq_some_iff.mp H
  obtain ⟨⟨t401, t402⟩, A60, H⟩ := H
  (try dsimp only at H)
  have A6 := Aside0.mk A60
  clear A60
  replace H := Option.bind_eq_some_iff.mp H
  obtain ⟨⟨t403, t404, t405, t406, t407, t408⟩, A70, H⟩ := H
  (try dsimp only at H)
  have A7 := Aside0.mk A70
  clear A70
  replace H := Option.bind_eq_some_iff.mp H
  obtain ⟨⟨t411, t412⟩, A80, H⟩ := H
  (try dsimp only at H)
  have A8 := Aside0.mk A80
  clear A80
  replace H := Option.bind_eq_some_iff.mp H
  obtain ⟨⟨t413, t414⟩, A90, H⟩ := H
  (try dsimp only at H)
  have A9 := Aside0.mk A90
  clear A90
  replace H := Option.bind_eq_some_iff.mp H
  obtain ⟨⟨t415, t416, t417, t418, t419, t420, t421⟩, A100, H⟩ := H
  (try dsimp only at H)
  have A10 := Aside0.mk A100
  clear A100
  replace H := Option.bind_eq_some_iff.mp H
  obtain ⟨⟨t424, t425⟩, A110, H⟩ := H
  (try dsimp only at H)
  have A11 := Aside0.mk A110
  clear A110
  replace H := Option.bind_eq_some_iff.mp H
  obtain ⟨⟨t426, t427⟩, A120, H⟩ := H
  (try dsimp only at H)
  have A12 := Aside0.mk A120
  clear A120
  replace H := Option.bind_eq_some_iff.mp H
  obtain ⟨⟨t428, t429, t430⟩, A130, H⟩ := H
  (try dsimp only at H)
  have A13 := Aside0.mk A130
  clear A130
  replace H := Option.bind_eq_some_iff.mp H
  obtain ⟨⟨t432, t433⟩, A140, H⟩ := H
  (try dsimp only at H)
  have A14 := Aside0.mk A140
  clear A140
  replace H := Option.bind_eq_some_iff.mp H
  obtain ⟨⟨t434, t435⟩, A150, H⟩ := H
  (try dsimp only at H)
  have A15 := Aside0.mk A150
  clear A150
  replace H := Option.bind_eq_some_iff.mp H
  obtain ⟨⟨t436, t437, t438, t439⟩, A160, H⟩ := H
  (try dsimp only at H)
  have A16 := Aside0.mk A160
  clear A160
  replace H := Option.bind_eq_some_iff.mp H
  obtain ⟨⟨t441, t442, t443⟩, A170, H⟩ := H
  (try dsimp only at H)
  have A17 := Aside0.mk A170
  clear A170
  replace H := Option.bind_eq_some_iff.mp H
  obtain ⟨⟨t444, t445, t446⟩, A180, H⟩ := H
  (try dsimp only at H)
  have A18 := Aside0.mk A180
  clear A180
  have HC19 := Aside0.mk H
  clear H
  go_enter Try.func11, Try.ntmps11
  go_upto_region 18 with (first | ((with_reducible refine gate_callee (f := 65) rfl ?_); refine goesL_ (some 62) rfl rfl Try.func65 (by kernel_rfl) rfl #[.slice A0 l0.length c0] rfl (by (try simp only [List.map_toArray, List.map_cons, List.map_nil]); first | done | rfl | (simp only [List.length_drop, List.length_take]; rfl)) ?_; (with_reducible refine (spec_DrawLeastCore.calls k _ _ l0 t396 t397 t398 _ ?side1 ?side2 A4.out).mono ?_); (case side1 => repeat (first | exact HR0.out | (with_reducible refine Kd.C_alloc ?_ _) | (with_reducible refine Kd.C_drewN ?_ _) | (with_reducible refine Kd.C_drew ?_))); (case side2 => exact HC0.out); rintro e w20 ⟨rfl, hb⟩; refine ⟨_, rfl, ?_⟩; have n0_ := Aside0.mk (below_step (by repeat (first | (with_reducible first | exact HB.out | apply below_alloc | apply pw_below_drewN | apply below_drew1) | exact HB.out)) hb); clear HB; have HB := n0_; clear n0_; (try clear hb); (try clear hb2); (try clear hk); (try clear hi)) | ((with_reducible refine gate_callee (f := 66) rfl ?_); refine goesL_ (some 70) rfl rfl Try.func66 (by kernel_rfl) rfl #[.int .i64 t396, .int .i64 t397, .int .i64 t398] rfl (by (try simp only [List.map_toArray, List.map_cons, List.map_nil]); first | done | rfl | (simp only [List.length_drop, List.length_take]; rfl)) ?_; (with_reducible refine (impl_LeastCore.calls k t396 t397 t398 t399 t400 _ A5.out).mono ?_); rintro e w21 ⟨rfl, hb⟩; refine ⟨_, rfl, ?_⟩; have n0_ := Aside0.mk (below_step (by repeat (first | (with_reducible first | exact HB.out | apply below_alloc | apply pw_below_drewN | apply below_drew1) | exact HB.out)) hb); clear HB; have HB := n0_; clear n0_; (try clear hb); (try clear hb2); (try clear hk); (try clear hi)) | ((with_reducible refine gate_callee (f := 67) rfl ?_); refine goesL_ (some 77) rfl rfl Try.func67 (by kernel_rfl) rfl #[.int .i64 t396, .int .i64 t397, .int .i64 t398] rfl (by (try simp only [List.map_toArray, List.map_cons, List.map_nil]); first | done | rfl | (simp only [List.length_drop, List.length_take]; rfl)) ?_; (with_reducible refine (spec_LeastCore.calls k t396 t397 t398 t401 t402 _ A6.out).mono ?_); rintro e w' ⟨rfl, ⟨nd, rfl⟩⟩; refine ⟨_, rfl, ?_⟩; (try (rw [drewN_self w21]; generalize hq_ : World.drewN w21 _ = w21; have n0_ : Aside0 (Below w.heap.size w w21) := ⟨by rw [← hq_]; exact (by repeat (first | (with_reducible first | exact HB.out | apply below_alloc | apply pw_below_drewN | apply below_drew1) | exact HB.out))⟩; clear HB hq_; have HB := n0_; clear n0_))) | ((with_reducible refine gate_callee (f := 68) rfl ?_); refine goesL_ (some 82) rfl rfl Try.func68 (by kernel_rfl) rfl #[.slice A1 l1.length c1] rfl (by (try simp only [List.map_toArray, List.map_cons, List.map_nil]); first | done | rfl | (simp only [List.length_drop, List.length_take]; rfl)) ?_; (with_reducible refine (spec_DrawCompareSpools.calls _ _ l1 t403 t404 t405 t406 t407 t408 _ ?side1 ?side2 A7.out).mono ?_); (case side1 => repeat (first | exact (Kd.C_below HR1.out HB.out) | (with_reducible refine Kd.C_alloc ?_ _) | (with_reducible refine Kd.C_drewN ?_ _) | (with_reducible refine Kd.C_drew ?_))); (case side2 => exact HC1.out); rintro e w22 ⟨rfl, hb⟩; refine ⟨_, rfl, ?_⟩; have n0_ := Aside0.mk (below_step (by repeat (first | (with_reducible first | exact HB.out | apply below_alloc | apply pw_below_drewN | apply below_drew1) | exact HB.out)) hb); clear HB; have HB := n0_; clear n0_; (try clear hb); (try clear hb2); (try clear hk); (try clear hi)) | ((with_reducible refine gate_dst (N := 12) rfl ?_); refine box_event ?hg (N := 12) ?hd (cs := #[.int .i64 0, .int .i64 0, .int .i64 0]) (t := 64) ?hr ?_; (case hd => rfl); (case hg => rfl); (case hr => first | (go_simp; done) | (go_simp; rfl)); intro gb409 hg w23 hbox hb; have n0_ := Aside0.mk (below_step (by repeat (first | (with_reducible first | exact HB.out | apply below_alloc | apply pw_below_drewN | apply below_drew1) | exact HB.out)) hb); have n1_ := Aside0.mk (hbox); have n2_ := Aside0.mk ((by rw [hg]; exact (below_size (by repeat (first | (with_reducible first | exact HB.out | apply below_alloc | apply pw_below_drewN | apply below_drew1) | exact HB.out))) : w.heap.size ≤ gb409)); have n3_ := Aside0.mk ((by rw [hg]; exact (below_size (by repeat (first | (with_reducible first | exact HB.out | apply below_alloc | apply pw_below_drewN | apply below_drew1) | exact HB.out))) : w.heap.size ≤ gb409)); clear HB; have HB := n0_; have BK409 := n1_; have GW409 := n2_; have GE409 := n3_; clear n0_ n1_ n2_ n3_; clear hb hbox hg) | ((with_reducible refine gate_dst (N := 13) rfl ?_); refine box_event ?hg (N := 13) ?hd (cs := #[.int .i64 0, .int .i64 0, .int .i64 0]) (t := 64) ?hr ?_; (case hd => rfl); (case hg => rfl); (case hr => first | (go_simp; done) | (go_simp; rfl)); intro gb410 hg w24 hbox hb; have n0_ := Aside0.mk (blk_below (g := gb409) (o := .cells #[.int .i64 0, .int .i64 0, .int .i64 0] 64 (0, 0)) (by (with_reducible repeat (first | refine blk_drewN ?_ _ | refine blk_drew ?_ | refine blk_alloc ?_ _)); exact BK409.out) hb); have n1_ := Aside0.mk (below_step (by repeat (first | (with_reducible first | exact HB.out | apply below_alloc | apply pw_below_drewN | apply below_drew1 | refine below_set ?_ GE409.out) | exact HB.out)) hb); have n2_ := Aside0.mk (hbox); have n3_ := Aside0.mk ((by rw [hg]; exact (below_size (by repeat (first | (with_reducible first | exact HB.out | apply below_alloc | apply pw_below_drewN | apply below_drew1 | refine below_set ?_ GE409.out) | exact HB.out))) : w.heap.size ≤ gb410)); have n4_ := Aside0.mk ((by rw [hg]; exact (below_size (by repeat (first | (with_reducible first | exact HB.out | apply below_alloc | apply pw_below_drewN | apply below_drew1 | refine below_set ?_ GE409.out) | exact HB.out))) : w.heap.size ≤ gb410)); have n5_ := Aside0.mk ((by rw [hg]; exact Nat.ne_of_lt (blk_lt (g := gb409) (o := .cells #[.int .i64 0, .int .i64 0, .int .i64 0] 64 (0, 0)) (by (with_reducible repeat (first | refine blk_drewN ?_ _ | refine blk_drew ?_ | refine blk_alloc ?_ _)); exact BK409.out)) : gb409 ≠ gb410)); have n6_ := Aside0.mk ((by rw [hg]; exact Nat.ne_of_gt (blk_lt (g := gb409) (o := .cells #[.int .i64 0, .int .i64 0, .int .i64 0] 64 (0, 0)) (by (with_reducible repeat (first | refine blk_drewN ?_ _ | refine blk_drew ?_ | refine blk_alloc ?_ _)); exact BK409.out)) : gb410 ≠ gb409)); clear BK409; clear HB; have BK409 := n0_; have HB := n1_; have BK410 := n2_; have GW410 := n3_; have GE410 := n4_; have NB409_410 := n5_; have NB410_409 := n6_; clear n0_ n1_ n2_ n3_ n4_ n5_ n6_; clear hb hbox hg; have hnb25 := NB409_410.out; have hnc25 := NB410_409.out; have hcz26_0 : w24.cell? ⟨gb409, 0, none⟩ = some (.int .i64 0) := (blk_cell BK409.out 0).trans rfl; have hcz26_1 : w24.cell? ⟨gb409, 1, none⟩ = some (.int .i64 0) := (blk_cell BK409.out 1).trans rfl; have hcz26_2 : w24.cell? ⟨gb409, 2, none⟩ = some (.int .i64 0) := (blk_cell BK409.out 2).trans rfl; have hfz26_0 := blk_frozen BK409.out 0; have hfz26_1 := blk_frozen BK409.out 1; have hfz26_2 := blk_frozen BK409.out 2; have hcz27_0 : w24.cell? ⟨gb410, 0, none⟩ = some (.int .i64 0) := (blk_cell BK410.out 0).trans rfl; have hcz27_1 : w24.cell? ⟨gb410, 1, none⟩ = some (.int .i64 0) := (blk_cell BK410.out 1).trans rfl; have hcz27_2 : w24.cell? ⟨gb410, 2, none⟩ = some (.int .i64 0) := (blk_cell BK410.out 2).trans rfl; have hfz27_0 := blk_frozen BK410.out 0; have hfz27_1 := blk_frozen BK410.out 1; have hfz27_2 := blk_frozen BK410.out 2) | ((with_reducible refine gate_callee (f := 69) rfl ?_); refine goesL_ (some 88) rfl rfl Try.func69 (by kernel_rfl) rfl #[.agg #[.int .i64 t403, .int .i64 t404, .int .i64 t405], .agg #[.int .i64 t406, .int .i64 t407, .int .i64 t408]] rfl (by (try simp only [List.map_toArray, List.map_cons, List.map_nil]); first | done | rfl | (simp only [List.length_drop, List.length_take]; rfl)) ?_; (with_reducible refine (impl_CompareSpools.calls k t403 t404 t405 t406 t407 t408 t411 t412 _ A8.out).mono ?_); rintro e w28 ⟨rfl, hb⟩; refine ⟨_, rfl, ?_⟩; have n0_ := Aside0.mk (blk_below (g := gb409) (o := .cells #[.int .i64 t403, .int .i64 t404, .int .i64 t405] 64 (0, 0)) (by (with_reducible repeat (first | refine blk_drewN ?_ _ | refine blk_drew ?_ | refine blk_alloc ?_ _)); refine blk_far ?_ NB409_410.out _; (with_reducible repeat (first | refine blk_drewN ?_ _ | refine blk_drew ?_ | refine blk_alloc ?_ _)); refine blk_far ?_ NB409_410.out _; (with_reducible repeat (first | refine blk_drewN ?_ _ | refine blk_drew ?_ | refine blk_alloc ?_ _)); refine blk_far ?_ NB409_410.out _; (with_reducible repeat (first | refine blk_drewN ?_ _ | refine blk_drew ?_ | refine blk_alloc ?_ _)); refine blk_put (cs := #[.int .i64 t403, .int .i64 t404, .int .i64 0]) ?_ 2 _ rfl; (with_reducible repeat (first | refine blk_drewN ?_ _ | refine blk_drew ?_ | refine blk_alloc ?_ _)); refine blk_put (cs := #[.int .i64 t403, .int .i64 0, .int .i64 0]) ?_ 1 _ rfl; (with_reducible repeat (first | refine blk_drewN ?_ _ | refine blk_drew ?_ | refine blk_alloc ?_ _)); refine blk_put (cs := #[.int .i64 0, .int .i64 0, .int .i64 0]) ?_ 0 _ rfl; (with_reducible repeat (first | refine blk_drewN ?_ _ | refine blk_drew ?_ | refine blk_alloc ?_ _)); exact BK409.out) hb); have n1_ := Aside0.mk (blk_below (g := gb410) (o := .cells #[.int .i64 t406, .int .i64 t407, .int .i64 t408] 64 (0, 0)) (by (with_reducible repeat (first | refine blk_drewN ?_ _ | refine blk_drew ?_ | refine blk_alloc ?_ _)); refine blk_put (cs := #[.int .i64 t406, .int .i64 t407, .int .i64 0]) ?_ 2 _ rfl; (with_reducible repeat (first | refine blk_drewN ?_ _ | refine blk_drew ?_ | refine blk_alloc ?_ _)); refine blk_put (cs := #[.int .i64 t406, .int .i64 0, .int .i64 0]) ?_ 1 _ rfl; (with_reducible repeat (first | refine blk_drewN ?_ _ | refine blk_drew ?_ | refine blk_alloc ?_ _)); refine blk_put (cs := #[.int .i64 0, .int .i64 0, .int .i64 0]) ?_ 0 _ rfl; (with_reducible repeat (first | refine blk_drewN ?_ _ | refine blk_drew ?_ | refine blk_alloc ?_ _)); refine blk_far ?_ NB410_409.out _; (with_reducible repeat (first | refine blk_drewN ?_ _ | refine blk_drew ?_ | refine blk_alloc ?_ _)); refine blk_far ?_ NB410_409.out _; (with_reducible repeat (first | refine blk_drewN ?_ _ | refine blk_drew ?_ | refine blk_alloc ?_ _)); refine blk_far ?_ NB410_409.out _; (with_reducible repeat (first | refine blk_drewN ?_ _ | refine blk_drew ?_ | refine blk_alloc ?_ _)); exact BK410.out) hb); have n2_ := Aside0.mk (below_step (by repeat (first | (with_reducible first | exact HB.out | apply below_alloc | apply pw_below_drewN | apply below_drew1 | refine below_set ?_ GE409.out | refine below_set ?_ GE410.out) | exact HB.out)) hb); clear BK409; clear BK410; clear HB; have BK409 := n0_; have BK410 := n1_; have HB := n2_; clear n0_ n1_ n2_; (try clear hb); (try clear hb2); (try clear hk); (try clear hi); have hcz29_0 : w28.cell? ⟨gb409, 0, none⟩ = some (.int .i64 t403) := (blk_cell BK409.out 0).trans rfl; have hcz29_1 : w28.cell? ⟨gb409, 1, none⟩ = some (.int .i64 t404) := (blk_cell BK409.out 1).trans rfl; have hcz29_2 : w28.cell? ⟨gb409, 2, none⟩ = some (.int .i64 t405) := (blk_cell BK409.out 2).trans rfl; have hfz29_0 := blk_frozen BK409.out 0; have hfz29_1 := blk_frozen BK409.out 1; have hfz29_2 := blk_frozen BK409.out 2; have hcz30_0 : w28.cell? ⟨gb410, 0, none⟩ = some (.int .i64 t406) := (blk_cell BK410.out 0).trans rfl; have hcz30_1 : w28.cell? ⟨gb410, 1, none⟩ = some (.int .i64 t407) := (blk_cell BK410.out 1).trans rfl; have hcz30_2 : w28.cell? ⟨gb410, 2, none⟩ = some (.int .i64 t408) := (blk_cell BK410.out 2).trans rfl; have hfz30_0 := blk_frozen BK410.out 0; have hfz30_1 := blk_frozen BK410.out 1; have hfz30_2 := blk_frozen BK410.out 2) | ((with_reducible refine gate_callee (f := 70) rfl ?_); refine goesL_ (some 94) rfl rfl Try.func70 (by kernel_rfl) rfl #[.agg #[.int .i64 t403, .int .i64 t404, .int .i64 t405], .agg #[.int .i64 t406, .int .i64 t407, .int .i64 t408]] rfl (by (try simp only [List.map_toArray, List.map_cons, List.map_nil]); first | done | rfl | (simp only [List.length_drop, List.length_take]; rfl)) ?_; (with_reducible refine (spec_CompareSpools.calls k t403 t404 t405 t406 t407 t408 t413 t414 _ A9.out).mono ?_); rintro e w31 ⟨rfl, hb⟩; refine ⟨_, rfl, ?_⟩; have n0_ := Aside0.mk (blk_below (g := gb409) (o := .cells #[.int .i64 t403, .int .i64 t404, .int .i64 t405] 64 (0, 0)) (by (with_reducible repeat (first | refine blk_drewN ?_ _ | refine blk_drew ?_ | refine blk_alloc ?_ _)); exact BK409.out) hb); have n1_ := Aside0.mk (blk_below (g := gb410) (o := .cells #[.int .i64 t406, .int .i64 t407, .int .i64 t408] 64 (0, 0)) (by (with_reducible repeat (first | refine blk_drewN ?_ _ | refine blk_drew ?_ | refine blk_alloc ?_ _)); exact BK410.out) hb); have n2_ := Aside0.mk (below_step (by repeat (first | (with_reducible first | exact HB.out | apply below_alloc | apply pw_below_drewN | apply below_drew1 | refine below_set ?_ GE409.out | refine below_set ?_ GE410.out) | exact HB.out)) hb); clear BK409; clear BK410; clear HB; have BK409 := n0_; have BK410 := n1_; have HB := n2_; clear n0_ n1_ n2_; (try clear hb); (try clear hb2); (try clear hk); (try clear hi)) | ((with_reducible refine gate_callee (f := 71) rfl ?_); refine goesL_ (some 99) rfl rfl Try.func71 (by kernel_rfl) rfl #[.slice A1 l1.length c1] rfl (by (try simp only [List.map_toArray, List.map_cons, List.map_nil]); first | done | rfl | (simp only [List.length_drop, List.length_take]; rfl)) ?_; (with_reducible refine (spec_DrawRewindEighths.calls _ _ l1 t415 t416 t417 t418 t419 t420 t421 _ ?side1 ?side2 A10.out).mono ?_); (case side1 => repeat (first | exact (Kd.C_below HR1.out HB.out) | (with_reducible refine Kd.C_alloc ?_ _) | (with_reducible refine Kd.C_drewN ?_ _) | (with_reducible refine Kd.C_drew ?_))); (case side2 => exact HC1.out); rintro e w32 ⟨rfl, hb⟩; refine ⟨_, rfl, ?_⟩; have n0_ := Aside0.mk (blk_below (g := gb409) (o := .cells #[.int .i64 t403, .int .i64 t404, .int .i64 t405] 64 (0, 0)) (by (with_reducible repeat (first | refine blk_drewN ?_ _ | refine blk_drew ?_ | refine blk_alloc ?_ _)); exact BK409.out) hb); have n1_ := Aside0.mk (blk_below (g := gb410) (o := .cells #[.int .i64 t406, .int .i64 t407, .int .i64 t408] 64 (0, 0)) (by (with_reducible repeat (first | refine blk_drewN ?_ _ | refine blk_drew ?_ | refine blk_alloc ?_ _)); exact BK410.out) hb); have n2_ := Aside0.mk (below_step (by repeat (first | (with_reducible first | exact HB.out | apply below_alloc | apply pw_below_drewN | apply below_drew1 | refine below_set ?_ GE409.out | refine below_set ?_ GE410.out) | exact HB.out)) hb); clear BK409; clear BK410; clear HB; have BK409 := n0_; have BK410 := n1_; have HB := n2_; clear n0_ n1_ n2_; (try clear hb); (try clear hb2); (try clear hk); (try clear hi)) | ((with_reducible refine gate_dst (N := 18) rfl ?_); refine box_event ?hg (N := 18) ?hd (cs := #[.int .i64 0, .int .i64 0, .int .i64 0]) (t := 64) ?hr ?_; (case hd => rfl); (case hg => rfl); (case hr => first | (go_simp; done) | (go_simp; rfl)); intro gb422 hg w33 hbox hb; have n0_ := Aside0.mk (blk_below (g := gb409) (o := .cells #[.int .i64 t403, .int .i64 t404, .int .i64 t405] 64 (0, 0)) (by (with_reducible repeat (first | refine blk_drewN ?_ _ | refine blk_drew ?_ | refine blk_alloc ?_ _)); exact BK409.out) hb); have n1_ := Aside0.mk (blk_below (g := gb410) (o := .cells #[.int .i64 t406, .int .i64 t407, .int .i64 t408] 64 (0, 0)) (by (with_reducible repeat (first | refine blk_drewN ?_ _ | refine blk_drew ?_ | refine blk_alloc ?_ _)); exact BK410.out) hb); have n2_ := Aside0.mk (below_step (by repeat (first | (with_reducible first | exact HB.out | apply below_alloc | apply pw_below_drewN | apply below_drew1 | refine below_set ?_ GE409.out | refine below_set ?_ GE410.out) | exact HB.out)) hb); have n3_ := Aside0.mk (hbox); have n4_ := Aside0.mk ((by rw [hg]; exact (below_size (by repeat (first | (with_reducible first | exact HB.out | apply below_alloc | apply pw_below_drewN | apply below_drew1 | refine below_set ?_ GE409.out | refine below_set ?_ GE410.out) | exact HB.out))) : w.heap.size ≤ gb422)); have n5_ := Aside0.mk ((by rw [hg]; exact (below_size (by repeat (first | (with_reducible first | exact HB.out | apply below_alloc | apply pw_below_drewN | apply below_drew1 | refine below_set ?_ GE409.out | refine below_set ?_ GE410.out) | exact HB.out))) : w.heap.size ≤ gb422)); have n6_ := Aside0.mk ((by rw [hg]; exact Nat.ne_of_lt (blk_lt (g := gb409) (o := .cells #[.int .i64 t403, .int .i64 t404, .int .i64 t405] 64 (0, 0)) (by (with_reducible repeat (first | refine blk_drewN ?_ _ | refine blk_drew ?_ | refine blk_alloc ?_ _)); exact BK409.out)) : gb409 ≠ gb422)); have n7_ := Aside0.mk ((by rw [hg]; exact Nat.ne_of_gt (blk_lt (g := gb409) (o := .cells #[.int .i64 t403, .int .i64 t404, .int .i64 t405] 64 (0, 0)) (by (with_reducible repeat (first | refine blk_drewN ?_ _ | refine blk_drew ?_ | refine blk_alloc ?_ _)); exact BK409.out)) : gb422 ≠ gb409)); have n8_ := Aside0.mk ((by rw [hg]; exact Nat.ne_of_lt (blk_lt (g := gb410) (o := .cells #[.int .i64 t406, .int .i64 t407, .int .i64 t408] 64 (0, 0)) (by (with_reducible repeat (first | refine blk_drewN ?_ _ | refine blk_drew ?_ | refine blk_alloc ?_ _)); exact BK410.out)) : gb410 ≠ gb422)); have n9_ := Aside0.mk ((by rw [hg]; exact Nat.ne_of_gt (blk_lt (g := gb410) (o := .cells #[.int .i64 t406, .int .i64 t407, .int .i64 t408] 64 (0, 0)) (by (with_reducible repeat (first | refine blk_drewN ?_ _ | refine blk_drew ?_ | refine blk_alloc ?_ _)); exact BK410.out)) : gb422 ≠ gb410)); clear BK409; clear BK410; clear HB; have BK409 := n0_; have BK410 := n1_; have HB := n2_; have BK422 := n3_; have GW422 := n4_; have GE422 := n5_; have NB409_422 := n6_; have NB422_409 := n7_; have NB410_422 := n8_; have NB422_410 := n9_; clear n0_ n1_ n2_ n3_ n4_ n5_ n6_ n7_ n8_ n9_; clear hb hbox hg) | ((with_reducible refine gate_dst (N := 19) rfl ?_); refine box_event ?hg (N := 19) ?hd (cs := #[.int .i64 0, .int .i64 0, .int .i64 0]) (t := 64) ?hr ?_; (case hd => rfl); (case hg => rfl); (case hr => first | (go_simp; done) | (go_simp; rfl)); intro gb423 hg w34 hbox hb; have n0_ := Aside0.mk (blk_below (g := gb409) (o := .cells #[.int .i64 t403, .int .i64 t404, .int .i64 t405] 64 (0, 0)) (by (with_reducible repeat (first | refine blk_drewN ?_ _ | refine blk_drew ?_ | refine blk_alloc ?_ _)); exact BK409.out) hb); have n1_ := Aside0.mk (blk_below (g := gb410) (o := .cells #[.int .i64 t406, .int .i64 t407, .int .i64 t408] 64 (0, 0)) (by (with_reducible repeat (first | refine blk_drewN ?_ _ | refine blk_drew ?_ | refine blk_alloc ?_ _)); exact BK410.out) hb); have n2_ := Aside0.mk (blk_below (g := gb422) (o := .cells #[.int .i64 0, .int .i64 0, .int .i64 0] 64 (0, 0)) (by (with_reducible repeat (first | refine blk_drewN ?_ _ | refine blk_drew ?_ | refine blk_alloc ?_ _)); exact BK422.out) hb); have n3_ := Aside0.mk (below_step (by repeat (first | (with_reducible first | exact HB.out | apply below_alloc | apply pw_below_drewN | apply below_drew1 | refine below_set ?_ GE409.out | refine below_set ?_ GE410.out | refine below_set ?_ GE422.out) | exact HB.out)) hb); have n4_ := Aside0.mk (hbox); have n5_ := Aside0.mk ((by rw [hg]; exact (below_size (by repeat (first | (with_reducible first | exact HB.out | apply below_alloc | apply pw_below_drewN | apply below_drew1 | refine below_set ?_ GE409.out | refine below_set ?_ GE410.out | refine below_set ?_ GE422.out) | exact HB.out))) : w.heap.size ≤ gb423)); have n6_ := Aside0.mk ((by rw [hg]; exact (below_size (by repeat (first | (with_reducible first | exact HB.out | apply below_alloc | apply pw_below_drewN | apply below_drew1 | refine below_set ?_ GE409.out | refine below_set ?_ GE410.out | refine below_set ?_ GE422.out) | exact HB.out))) : w.heap.size ≤ gb423)); have n7_ := Aside0.mk ((by rw [hg]; exact Nat.ne_of_lt (blk_lt (g := gb409) (o := .cells #[.int .i64 t403, .int .i64 t404, .int .i64 t405] 64 (0, 0)) (by (with_reducible repeat (first | refine blk_drewN ?_ _ | refine blk_drew ?_ | refine blk_alloc ?_ _)); exact BK409.out)) : gb409 ≠ gb423)); have n8_ := Aside0.mk ((by rw [hg]; exact Nat.ne_of_gt (blk_lt (g := gb409) (o := .cells #[.int .i64 t403, .int .i64 t404, .int .i64 t405] 64 (0, 0)) (by (with_reducible repeat (first | refine blk_drewN ?_ _ | refine blk_drew ?_ | refine blk_alloc ?_ _)); exact BK409.out)) : gb423 ≠ gb409)); have n9_ := Aside0.mk ((by rw [hg]; exact Nat.ne_of_lt (blk_lt (g := gb410) (o := .cells #[.int .i64 t406, .int .i64 t407, .int .i64 t408] 64 (0, 0)) (by (with_reducible repeat (first | refine blk_drewN ?_ _ | refine blk_drew ?_ | refine blk_alloc ?_ _)); exact BK410.out)) : gb410 ≠ gb423)); have n10_ := Aside0.mk ((by rw [hg]; exact Nat.ne_of_gt (blk_lt (g := gb410) (o := .cells #[.int .i64 t406, .int .i64 t407, .int .i64 t408] 64 (0, 0)) (by (with_reducible repeat (first | refine blk_drewN ?_ _ | refine blk_drew ?_ | refine blk_alloc ?_ _)); exact BK410.out)) : gb423 ≠ gb410)); have n11_ := Aside0.mk ((by rw [hg]; exact Nat.ne_of_lt (blk_lt (g := gb422) (o := .cells #[.int .i64 0, .int .i64 0, .int .i64 0] 64 (0, 0)) (by (with_reducible repeat (first | refine blk_drewN ?_ _ | refine blk_drew ?_ | refine blk_alloc ?_ _)); exact BK422.out)) : gb422 ≠ gb423)); have n12_ := Aside0.mk ((by rw [hg]; exact Nat.ne_of_gt (blk_lt (g := gb422) (o := .cells #[.int .i64 0, .int .i64 0, .int .i64 0] 64 (0, 0)) (by (with_reducible repeat (first | refine blk_drewN ?_ _ | refine blk_drew ?_ | refine blk_alloc ?_ _)); exact BK422.out)) : gb423 ≠ gb422)); clear BK409; clear BK410; clear BK422; clear HB; have BK409 := n0_; have BK410 := n1_; have BK422 := n2_; have HB := n3_; have BK423 := n4_; have GW423 := n5_; have GE423 := n6_; have NB409_423 := n7_; have NB423_409 := n8_; have NB410_423 := n9_; have NB423_410 := n10_; have NB422_423 := n11_; have NB423_422 := n12_; clear n0_ n1_ n2_ n3_ n4_ n5_ n6_ n7_ n8_ n9_ n10_ n11_ n12_; clear hb hbox hg; have hnb35 := NB422_409.out; have hnc35 := NB409_422.out; have hnb36 := NB422_410.out; have hnc36 := NB410_422.out; have hnb37 := NB422_423.out; have hnc37 := NB423_422.out; have hcz38_0 : w34.cell? ⟨gb422, 0, none⟩ = some (.int .i64 0) := (blk_cell BK422.out 0).trans rfl; have hcz38_1 : w34.cell? ⟨gb422, 1, none⟩ = some (.int .i64 0) := (blk_cell BK422.out 1).trans rfl; have hcz38_2 : w34.cell? ⟨gb422, 2, none⟩ = some (.int .i64 0) := (blk_cell BK422.out 2).trans rfl; have hfz38_0 := blk_frozen BK422.out 0; have hfz38_1 := blk_frozen BK422.out 1; have hfz38_2 := blk_frozen BK422.out 2; have hnb39 := NB423_409.out; have hnc39 := NB409_423.out; have hnb40 := NB423_410.out; have hnc40 := NB410_423.out; have hcz41_0 : w34.cell? ⟨gb423, 0, none⟩ = some (.int .i64 0) := (blk_cell BK423.out 0).trans rfl; have hcz41_1 : w34.cell? ⟨gb423, 1, none⟩ = some (.int .i64 0) := (blk_cell BK423.out 1).trans rfl; have hcz41_2 : w34.cell? ⟨gb423, 2, none⟩ = some (.int .i64 0) := (blk_cell BK423.out 2).trans rfl; have hfz41_0 := blk_frozen BK423.out 0; have hfz41_1 := blk_frozen BK423.out 1; have hfz41_2 := blk_frozen BK423.out 2) | ((with_reducible refine gate_callee (f := 72) rfl ?_); refine goesL_ (some 107) rfl rfl Try.func72 (by kernel_rfl) rfl #[.agg #[.int .i64 t415, .int .i64 t416, .int .i64 t417], .agg #[.int .i64 t418, .int .i64 t419, .int .i64 t420], .int .i64 t421] rfl (by (try simp only [List.map_toArray, List.map_cons, List.map_nil]); first | done | rfl | (simp only [List.length_drop, List.length_take]; rfl)) ?_; (with_reducible refine (impl_RewindEighths.calls k t415 t416 t417 t418 t419 t420 t421 t424 t425 _ A11.out).mono ?_); rintro e w42 ⟨rfl, hb⟩; refine ⟨_, rfl, ?_⟩; have n0_ := Aside0.mk (blk_below (g := gb409) (o := .cells #[.int .i64 t403, .int .i64 t404, .int .i64 t405] 64 (0, 0)) (by (with_reducible repeat (first | refine blk_drewN ?_ _ | refine blk_drew ?_ | refine blk_alloc ?_ _)); refine blk_far ?_ NB409_423.out _; (with_reducible repeat (first | refine blk_drewN ?_ _ | refine blk_drew ?_ | refine blk_alloc ?_ _)); refine blk_far ?_ NB409_423.out _; (with_reducible repeat (first | refine blk_drewN ?_ _ | refine blk_drew ?_ | refine blk_alloc ?_ _)); refine blk_far ?_ NB409_423.out _; (with_reducible repeat (first | refine blk_drewN ?_ _ | refine blk_drew ?_ | refine blk_alloc ?_ _)); refine blk_far ?_ NB409_422.out _; (with_reducible repeat (first | refine blk_drewN ?_ _ | refine blk_drew ?_ | refine blk_alloc ?_ _)); refine blk_far ?_ NB409_422.out _; (with_reducible repeat (first | refine blk_drewN ?_ _ | refine blk_drew ?_ | refine blk_alloc ?_ _)); refine blk_far ?_ NB409_422.out _; (with_reducible repeat (first | refine blk_drewN ?_ _ | refine blk_drew ?_ | refine blk_alloc ?_ _)); exact BK409.out) hb); have n1_ := Aside0.mk (blk_below (g := gb410) (o := .cells #[.int .i64 t406, .int .i64 t407, .int .i64 t408] 64 (0, 0)) (by (with_reducible repeat (first | refine blk_drewN ?_ _ | refine blk_drew ?_ | refine blk_alloc ?_ _)); refine blk_far ?_ NB410_423.out _; (with_reducible repeat (first | refine blk_drewN ?_ _ | refine blk_drew ?_ | refine blk_alloc ?_ _)); refine blk_far ?_ NB410_423.out _; (with_reducible repeat (first | refine blk_drewN ?_ _ | refine blk_drew ?_ | refine blk_alloc ?_ _)); refine blk_far ?_ NB410_423.out _; (with_reducible repeat (first | refine blk_drewN ?_ _ | refine blk_drew ?_ | refine blk_alloc ?_ _)); refine blk_far ?_ NB410_422.out _; (with_reducible repeat (first | refine blk_drewN ?_ _ | refine blk_drew ?_ | refine blk_alloc ?_ _)); refine blk_far ?_ NB410_422.out _; (with_reducible repeat (first | refine blk_drewN ?_ _ | refine blk_drew ?_ | refine blk_alloc ?_ _)); refine blk_far ?_ NB410_422.out _; (with_reducible repeat (first | refine blk_drewN ?_ _ | refine blk_drew ?_ | refine blk_alloc ?_ _)); exact BK410.out) hb); have n2_ := Aside0.mk (blk_below (g := gb422) (o := .cells #[.int .i64 t415, .int .i64 t416, .int .i64 t417] 64 (0, 0)) (by (with_reducible repeat (first | refine blk_drewN ?_ _ | refine blk_drew ?_ | refine blk_alloc ?_ _)); refine blk_far ?_ NB422_423.out _; (with_reducible repeat (first | refine blk_drewN ?_ _ | refine blk_drew ?_ | refine blk_alloc ?_ _)); refine blk_far ?_ NB422_423.out _; (with_reducible repeat (first | refine blk_drewN ?_ _ | refine blk_drew ?_ | refine blk_alloc ?_ _)); refine blk_far ?_ NB422_423.out _; (with_reducible repeat (first | refine blk_drewN ?_ _ | refine blk_drew ?_ | refine blk_alloc ?_ _)); refine blk_put (cs := #[.int .i64 t415, .int .i64 t416, .int .i64 0]) ?_ 2 _ rfl; (with_reducible repeat (first | refine blk_drewN ?_ _ | refine blk_drew ?_ | refine blk_alloc ?_ _)); refine blk_put (cs := #[.int .i64 t415, .int .i64 0, .int .i64 0]) ?_ 1 _ rfl; (with_reducible repeat (first | refine blk_drewN ?_ _ | refine blk_drew ?_ | refine blk_alloc ?_ _)); refine blk_put (cs := #[.int .i64 0, .int .i64 0, .int .i64 0]) ?_ 0 _ rfl; (with_reducible repeat (first | refine blk_drewN ?_ _ | refine blk_drew ?_ | refine blk_alloc ?_ _)); exact BK422.out) hb); have n3_ := Aside0.mk (blk_below (g := gb423) (o := .cells #[.int .i64 t418, .int .i64 t419, .int .i64 t420] 64 (0, 0)) (by (with_reducible repeat (first | refine blk_drewN ?_ _ | refine blk_drew ?_ | refine blk_alloc ?_ _)); refine blk_put (cs := #[.int .i64 t418, .int .i64 t419, .int .i64 0]) ?_ 2 _ rfl; (with_reducible repeat (first | refine blk_drewN ?_ _ | refine blk_drew ?_ | refine blk_alloc ?_ _)); refine blk_put (cs := #[.int .i64 t418, .int .i64 0, .int .i64 0]) ?_ 1 _ rfl; (with_reducible repeat (first | refine blk_drewN ?_ _ | refine blk_drew ?_ | refine blk_alloc ?_ _)); refine blk_put (cs := #[.int .i64 0, .int .i64 0, .int .i64 0]) ?_ 0 _ rfl; (with_reducible repeat (first | refine blk_drewN ?_ _ | refine blk_drew ?_ | refine blk_alloc ?_ _)); refine blk_far ?_ NB423_422.out _; (with_reducible repeat (first | refine blk_drewN ?_ _ | refine blk_drew ?_ | refine blk_alloc ?_ _)); refine blk_far ?_ NB423_422.out _; (with_reducible repeat (first | refine blk_drewN ?_ _ | refine blk_drew ?_ | refine blk_alloc ?_ _)); refine blk_far ?_ NB423_422.out _; (with_reducible repeat (first | refine blk_drewN ?_ _ | refine blk_drew ?_ | refine blk_alloc ?_ _)); exact BK423.out) hb); have n4_ := Aside0.mk (below_step (by repeat (first | (with_reducible first | exact HB.out | apply below_alloc | apply pw_below_drewN | apply below_drew1 | refine below_set ?_ GE409.out | refine below_set ?_ GE410.out | refine below_set ?_ GE422.out | refine below_set ?_ GE423.out) | exact HB.out)) hb); clear BK409; clear BK410; clear BK422; clear BK423; clear HB; have BK409 := n0_; have BK410 := n1_; have BK422 := n2_; have BK423 := n3_; have HB := n4_; clear n0_ n1_ n2_ n3_ n4_; (try clear hb); (try clear hb2); (try clear hk); (try clear hi); have hcz43_0 : w42.cell? ⟨gb422, 0, none⟩ = some (.int .i64 t415) := (blk_cell BK422.out 0).trans rfl; have hcz43_1 : w42.cell? ⟨gb422, 1, none⟩ = some (.int .i64 t416) := (blk_cell BK422.out 1).trans rfl; have hcz43_2 : w42.cell? ⟨gb422, 2, none⟩ = some (.int .i64 t417) := (blk_cell BK422.out 2).trans rfl; have hfz43_0 := blk_frozen BK422.out 0; have hfz43_1 := blk_frozen BK422.out 1; have hfz43_2 := blk_frozen BK422.out 2; have hcz44_0 : w42.cell? ⟨gb423, 0, none⟩ = some (.int .i64 t418) := (blk_cell BK423.out 0).trans rfl; have hcz44_1 : w42.cell? ⟨gb423, 1, none⟩ = some (.int .i64 t419) := (blk_cell BK423.out 1).trans rfl; have hcz44_2 : w42.cell? ⟨gb423, 2, none⟩ = some (.int .i64 t420) := (blk_cell BK423.out 2).trans rfl; have hfz44_0 := blk_frozen BK423.out 0; have hfz44_1 := blk_frozen BK423.out 1; have hfz44_2 := blk_frozen BK423.out 2) | ((with_reducible refine gate_callee (f := 73) rfl ?_); refine goesL_ (some 114) rfl rfl Try.func73 (by kernel_rfl) rfl #[.agg #[.int .i64 t415, .int .i64 t416, .int .i64 t417], .agg #[.int .i64 t418, .int .i64 t419, .int .i64 t420], .int .i64 t421] rfl (by (try simp only [List.map_toArray, List.map_cons, List.map_nil]); first | done | rfl | (simp only [List.length_drop, List.length_take]; rfl)) ?_; (with_reducible refine (spec_RewindEighths.calls k t415 t416 t417 t418 t419 t420 t421 t426 t427 _ A12.out).mono ?_); rintro e w45 ⟨rfl, hb⟩; refine ⟨_, rfl, ?_⟩; have n0_ := Aside0.mk (blk_below (g := gb409) (o := .cells #[.int .i64 t403, .int .i64 t404, .int .i64 t405] 64 (0, 0)) (by (with_reducible repeat (first | refine blk_drewN ?_ _ | refine blk_drew ?_ | refine blk_alloc ?_ _)); exact BK409.out) hb); have n1_ := Aside0.mk (blk_below (g := gb410) (o := .cells #[.int .i64 t406, .int .i64 t407, .int .i64 t408] 64 (0, 0)) (by (with_reducible repeat (first | refine blk_drewN ?_ _ | refine blk_drew ?_ | refine blk_alloc ?_ _)); exact BK410.out) hb); have n2_ := Aside0.mk (blk_below (g := gb422) (o := .cells #[.int .i64 t415, .int .i64 t416, .int .i64 t417] 64 (0, 0)) (by (with_reducible repeat (first | refine blk_drewN ?_ _ | refine blk_drew ?_ | refine blk_alloc ?_ _)); exact BK422.out) hb); have n3_ := Aside0.mk (blk_below (g := gb423) (o := .cells #[.int .i64 t418, .int .i64 t419, .int .i64 t420] 64 (0, 0)) (by (with_reducible repeat (first | refine blk_drewN ?_ _ | refine blk_drew ?_ | refine blk_alloc ?_ _)); exact BK423.out) hb); have n4_ := Aside0.mk (below_step (by repeat (first | (with_reducible first | exact HB.out | apply below_alloc | apply pw_below_drewN | apply below_drew1 | refine below_set ?_ GE409.out | refine below_set ?_ GE410.out | refine below_set ?_ GE422.out | refine below_set ?_ GE423.out) | exact HB.out)) hb); clear BK409; clear BK410; clear BK422; clear BK423; clear HB; have BK409 := n0_; have BK410 := n1_; have BK422 := n2_; have BK423 := n3_; have HB := n4_; clear n0_ n1_ n2_ n3_ n4_; (try clear hb); (try clear hb2); (try clear hk); (try clear hi)) | ((with_reducible refine gate_callee (f := 74) rfl ?_); refine goesL_ (some 118) rfl rfl Try.func74 (by kernel_rfl) rfl #[.slice A1 l1.length c1] rfl (by (try simp only [List.map_toArray, List.map_cons, List.map_nil]); first | done | rfl | (simp only [List.length_drop, List.length_take]; rfl)) ?_; (with_reducible refine (spec_DrawLengthOf.calls _ _ l1 t428 t429 t430 _ ?side1 ?side2 A13.out).mono ?_); (case side1 => repeat (first | exact (Kd.C_below HR1.out HB.out) | (with_reducible refine Kd.C_alloc ?_ _) | (with_reducible refine Kd.C_drewN ?_ _) | (with_reducible refine Kd.C_drew ?_))); (case side2 => exact HC1.out); rintro e w46 ⟨rfl, hb⟩; refine ⟨_, rfl, ?_⟩; have n0_ := Aside0.mk (blk_below (g := gb409) (o := .cells #[.int .i64 t403, .int .i64 t404, .int .i64 t405] 64 (0, 0)) (by (with_reducible repeat (first | refine blk_drewN ?_ _ | refine blk_drew ?_ | refine blk_alloc ?_ _)); exact BK409.out) hb); have n1_ := Aside0.mk (blk_below (g := gb410) (o := .cells #[.int .i64 t406, .int .i64 t407, .int .i64 t408] 64 (0, 0)) (by (with_reducible repeat (first | refine blk_drewN ?_ _ | refine blk_drew ?_ | refine blk_alloc ?_ _)); exact BK410.out) hb); have n2_ := Aside0.mk (blk_below (g := gb422) (o := .cells #[.int .i64 t415, .int .i64 t416, .int .i64 t417] 64 (0, 0)) (by (with_reducible repeat (first | refine blk_drewN ?_ _ | refine blk_drew ?_ | refine blk_alloc ?_ _)); exact BK422.out) hb); have n3_ := Aside0.mk (blk_below (g := gb423) (o := .cells #[.int .i64 t418, .int .i64 t419, .int .i64 t420] 64 (0, 0)) (by (with_reducible repeat (first | refine blk_drewN ?_ _ | refine blk_drew ?_ | refine blk_alloc ?_ _)); exact BK423.out) hb); have n4_ := Aside0.mk (below_step (by repeat (first | (with_reducible first | exact HB.out | apply below_alloc | apply pw_below_drewN | apply below_drew1 | refine below_set ?_ GE409.out | refine below_set ?_ GE410.out | refine below_set ?_ GE422.out | refine below_set ?_ GE423.out) | exact HB.out)) hb); clear BK409; clear BK410; clear BK422; clear BK423; clear HB; have BK409 := n0_; have BK410 := n1_; have BK422 := n2_; have BK423 := n3_; have HB := n4_; clear n0_ n1_ n2_ n3_ n4_; (try clear hb); (try clear hb2); (try clear hk); (try clear hi)) | ((with_reducible refine gate_dst (N := 25) rfl ?_); refine box_event ?hg (N := 25) ?hd (cs := #[.int .i64 0, .int .i64 0, .int .i64 0]) (t := 64) ?hr ?_; (case hd => rfl); (case hg => rfl); (case hr => first | (go_simp; done) | (go_simp; rfl)); intro gb431 hg w47 hbox hb; have n0_ := Aside0.mk (blk_below (g := gb409) (o := .cells #[.int .i64 t403, .int .i64 t404, .int .i64 t405] 64 (0, 0)) (by (with_reducible repeat (first | refine blk_drewN ?_ _ | refine blk_drew ?_ | refine blk_alloc ?_ _)); exact BK409.out) hb); have n1_ := Aside0.mk (blk_below (g := gb410) (o := .cells #[.int .i64 t406, .int .i64 t407, .int .i64 t408] 64 (0, 0)) (by (with_reducible repeat (first | refine blk_drewN ?_ _ | refine blk_drew ?_ | refine blk_alloc ?_ _)); exact BK410.out) hb); have n2_ := Aside0.mk (blk_below (g := gb422) (o := .cells #[.int .i64 t415, .int .i64 t416, .int .i64 t417] 64 (0, 0)) (by (with_reducible repeat (first | refine blk_drewN ?_ _ | refine blk_drew ?_ | refine blk_alloc ?_ _)); exact BK422.out) hb); have n3_ := Aside0.mk (blk_below (g := gb423) (o := .cells #[.int .i64 t418, .int .i64 t419, .int .i64 t420] 64 (0, 0)) (by (with_reducible repeat (first | refine blk_drewN ?_ _ | refine blk_drew ?_ | refine blk_alloc ?_ _)); exact BK423.out) hb); have n4_ := Aside0.mk (below_step (by repeat (first | (with_reducible first | exact HB.out | apply below_alloc | apply pw_below_drewN | apply below_drew1 | refine below_set ?_ GE409.out | refine below_set ?_ GE410.out | refine below_set ?_ GE422.out | refine below_set ?_ GE423.out) | exact HB.out)) hb); have n5_ := Aside0.mk (hbox); have n6_ := Aside0.mk ((by rw [hg]; exact (below_size (by repeat (first | (with_reducible first | exact HB.out | apply below_alloc | apply pw_below_drewN | apply below_drew1 | refine below_set ?_ GE409.out | refine below_set ?_ GE410.out | refine below_set ?_ GE422.out | refine below_set ?_ GE423.out) | exact HB.out))) : w.heap.size ≤ gb431)); have n7_ := Aside0.mk ((by rw [hg]; exact (below_size (by repeat (first | (with_reducible first | exact HB.out | apply below_alloc | apply pw_below_drewN | apply below_drew1 | refine below_set ?_ GE409.out | refine below_set ?_ GE410.out | refine below_set ?_ GE422.out | refine below_set ?_ GE423.out) | exact HB.out))) : w.heap.size ≤ gb431)); have n8_ := Aside0.mk ((by rw [hg]; exact Nat.ne_of_lt (blk_lt (g := gb409) (o := .cells #[.int .i64 t403, .int .i64 t404, .int .i64 t405] 64 (0, 0)) (by (with_reducible repeat (first | refine blk_drewN ?_ _ | refine blk_drew ?_ | refine blk_alloc ?_ _)); exact BK409.out)) : gb409 ≠ gb431)); have n9_ := Aside0.mk ((by rw [hg]; exact Nat.ne_of_gt (blk_lt (g := gb409) (o := .cells #[.int .i64 t403, .int .i64 t404, .int .i64 t405] 64 (0, 0)) (by (with_reducible repeat (first | refine blk_drewN ?_ _ | refine blk_drew ?_ | refine blk_alloc ?_ _)); exact BK409.out)) : gb431 ≠ gb409)); have n10_ := Aside0.mk ((by rw [hg]; exact Nat.ne_of_lt (blk_lt (g := gb410) (o := .cells #[.int .i64 t406, .int .i64 t407, .int .i64 t408] 64 (0, 0)) (by (with_reducible repeat (first | refine blk_drewN ?_ _ | refine blk_drew ?_ | refine blk_alloc ?_ _)); exact BK410.out)) : gb410 ≠ gb431)); have n11_ := Aside0.mk ((by rw [hg]; exact Nat.ne_of_gt (blk_lt (g := gb410) (o := .cells #[.int .i64 t406, .int .i64 t407, .int .i64 t408] 64 (0, 0)) (by (with_reducible repeat (first | refine blk_drewN ?_ _ | refine blk_drew ?_ | refine blk_alloc ?_ _)); exact BK410.out)) : gb431 ≠ gb410)); have n12_ := Aside0.mk ((by rw [hg]; exact Nat.ne_of_lt (blk_lt (g := gb422) (o := .cells #[.int .i64 t415, .int .i64 t416, .int .i64 t417] 64 (0, 0)) (by (with_reducible repeat (first | refine blk_drewN ?_ _ | refine blk_drew ?_ | refine blk_alloc ?_ _)); exact BK422.out)) : gb422 ≠ gb431)); have n13_ := Aside0.mk ((by rw [hg]; exact Nat.ne_of_gt (blk_lt (g := gb422) (o := .cells #[.int .i64 t415, .int .i64 t416, .int .i64 t417] 64 (0, 0)) (by (with_reducible repeat (first | refine blk_drewN ?_ _ | refine blk_drew ?_ | refine blk_alloc ?_ _)); exact BK422.out)) : gb431 ≠ gb422)); have n14_ := Aside0.mk ((by rw [hg]; exact Nat.ne_of_lt (blk_lt (g := gb423) (o := .cells #[.int .i64 t418, .int .i64 t419, .int .i64 t420] 64 (0, 0)) (by (with_reducible repeat (first | refine blk_drewN ?_ _ | refine blk_drew ?_ | refine blk_alloc ?_ _)); exact BK423.out)) : gb423 ≠ gb431)); have n15_ := Aside0.mk ((by rw [hg]; exact Nat.ne_of_gt (blk_lt (g := gb423) (o := .cells #[.int .i64 t418, .int .i64 t419, .int .i64 t420] 64 (0, 0)) (by (with_reducible repeat (first | refine blk_drewN ?_ _ | refine blk_drew ?_ | refine blk_alloc ?_ _)); exact BK423.out)) : gb431 ≠ gb423)); clear BK409; clear BK410; clear BK422; clear BK423; clear HB; have BK409 := n0_; have BK410 := n1_; have BK422 := n2_; have BK423 := n3_; have HB := n4_; have BK431 := n5_; have GW431 := n6_; have GE431 := n7_; have NB409_431 := n8_; have NB431_409 := n9_; have NB410_431 := n10_; have NB431_410 := n11_; have NB422_431 := n12_; have NB431_422 := n13_; have NB423_431 := n14_; have NB431_423 := n15_; clear n0_ n1_ n2_ n3_ n4_ n5_ n6_ n7_ n8_ n9_ n10_ n11_ n12_ n13_ n14_ n15_; clear hb hbox hg; have hnb48 := NB431_409.out; have hnc48 := NB409_431.out; have hnb49 := NB431_410.out; have hnc49 := NB410_431.out; have hnb50 := NB431_422.out; have hnc50 := NB422_431.out; have hnb51 := NB431_423.out; have hnc51 := NB423_431.out; have hcz52_0 : w47.cell? ⟨gb431, 0, none⟩ = some (.int .i64 0) := (blk_cell BK431.out 0).trans rfl; have hcz52_1 : w47.cell? ⟨gb431, 1, none⟩ = some (.int .i64 0) := (blk_cell BK431.out 1).trans rfl; have hcz52_2 : w47.cell? ⟨gb431, 2, none⟩ = some (.int .i64 0) := (blk_cell BK431.out 2).trans rfl; have hfz52_0 := blk_frozen BK431.out 0; have hfz52_1 := blk_frozen BK431.out 1; have hfz52_2 := blk_frozen BK431.out 2) | ((with_reducible refine gate_callee (f := 63) rfl ?_); refine goesL_ (some 121) rfl rfl Try.func63 (by kernel_rfl) rfl #[.agg #[.int .i64 t428, .int .i64 t429, .int .i64 t430]] rfl (by (try simp only [List.map_toArray, List.map_cons, List.map_nil]); first | done | rfl | (simp only [List.length_drop, List.length_take]; rfl)) ?_; (with_reducible refine (impl_LengthOf.calls t428 t429 t430 t432 t433 _ A14.out).mono ?_); rintro e w53 ⟨rfl, hb⟩; refine ⟨_, rfl, ?_⟩; have n0_ := Aside0.mk (blk_below (g := gb409) (o := .cells #[.int .i64 t403, .int .i64 t404, .int .i64 t405] 64 (0, 0)) (by (with_reducible repeat (first | refine blk_drewN ?_ _ | refine blk_drew ?_ | refine blk_alloc ?_ _)); refine blk_far ?_ NB409_431.out _; (with_reducible repeat (first | refine blk_drewN ?_ _ | refine blk_drew ?_ | refine blk_alloc ?_ _)); refine blk_far ?_ NB409_431.out _; (with_reducible repeat (first | refine blk_drewN ?_ _ | refine blk_drew ?_ | refine blk_alloc ?_ _)); refine blk_far ?_ NB409_431.out _; (with_reducible repeat (first | refine blk_drewN ?_ _ | refine blk_drew ?_ | refine blk_alloc ?_ _)); exact BK409.out) hb); have n1_ := Aside0.mk (blk_below (g := gb410) (o := .cells #[.int .i64 t406, .int .i64 t407, .int .i64 t408] 64 (0, 0)) (by (with_reducible repeat (first | refine blk_drewN ?_ _ | refine blk_drew ?_ | refine blk_alloc ?_ _)); refine blk_far ?_ NB410_431.out _; (with_reducible repeat (first | refine blk_drewN ?_ _ | refine blk_drew ?_ | refine blk_alloc ?_ _)); refine blk_far ?_ NB410_431.out _; (with_reducible repeat (first | refine blk_drewN ?_ _ | refine blk_drew ?_ | refine blk_alloc ?_ _)); refine blk_far ?_ NB410_431.out _; (with_reducible repeat (first | refine blk_drewN ?_ _ | refine blk_drew ?_ | refine blk_alloc ?_ _)); exact BK410.out) hb); have n2_ := Aside0.mk (blk_below (g := gb422) (o := .cells #[.int .i64 t415, .int .i64 t416, .int .i64 t417] 64 (0, 0)) (by (with_reducible repeat (first | refine blk_drewN ?_ _ | refine blk_drew ?_ | refine blk_alloc ?_ _)); refine blk_far ?_ NB422_431.out _; (with_reducible repeat (first | refine blk_drewN ?_ _ | refine blk_drew ?_ | refine blk_alloc ?_ _)); refine blk_far ?_ NB422_431.out _; (with_reducible repeat (first | refine blk_drewN ?_ _ | refine blk_drew ?_ | refine blk_alloc ?_ _)); refine blk_far ?_ NB422_431.out _; (with_reducible repeat (first | refine blk_drewN ?_ _ | refine blk_drew ?_ | refine blk_alloc ?_ _)); exact BK422.out) hb); have n3_ := Aside0.mk (blk_below (g := gb423) (o := .cells #[.int .i64 t418, .int .i64 t419, .int .i64 t420] 64 (0, 0)) (by (with_reducible repeat (first | refine blk_drewN ?_ _ | refine blk_drew ?_ | refine blk_alloc ?_ _)); refine blk_far ?_ NB423_431.out _; (with_reducible repeat (first | refine blk_drewN ?_ _ | refine blk_drew ?_ | refine blk_alloc ?_ _)); refine blk_far ?_ NB423_431.out _; (with_reducible repeat (first | refine blk_drewN ?_ _ | refine blk_drew ?_ | refine blk_alloc ?_ _)); refine blk_far ?_ NB423_431.out _; (with_reducible repeat (first | refine blk_drewN ?_ _ | refine blk_drew ?_ | refine blk_alloc ?_ _)); exact BK423.out) hb); have n4_ := Aside0.mk (blk_below (g := gb431) (o := .cells #[.int .i64 t428, .int .i64 t429, .int .i64 t430] 64 (0, 0)) (by (with_reducible repeat (first | refine blk_drewN ?_ _ | refine blk_drew ?_ | refine blk_alloc ?_ _)); refine blk_put (cs := #[.int .i64 t428, .int .i64 t429, .int .i64 0]) ?_ 2 _ rfl; (with_reducible repeat (first | refine blk_drewN ?_ _ | refine blk_drew ?_ | refine blk_alloc ?_ _)); refine blk_put (cs := #[.int .i64 t428, .int .i64 0, .int .i64 0]) ?_ 1 _ rfl; (with_reducible repeat (first | refine blk_drewN ?_ _ | refine blk_drew ?_ | refine blk_alloc ?_ _)); refine blk_put (cs := #[.int .i64 0, .int .i64 0, .int .i64 0]) ?_ 0 _ rfl; (with_reducible repeat (first | refine blk_drewN ?_ _ | refine blk_drew ?_ | refine blk_alloc ?_ _)); exact BK431.out) hb); have n5_ := Aside0.mk (below_step (by repeat (first | (with_reducible first | exact HB.out | apply below_alloc | apply pw_below_drewN | apply below_drew1 | refine below_set ?_ GE409.out | refine below_set ?_ GE410.out | refine below_set ?_ GE422.out | refine below_set ?_ GE423.out | refine below_set ?_ GE431.out) | exact HB.out)) hb); clear BK409; clear BK410; clear BK422; clear BK423; clear BK431; clear HB; have BK409 := n0_; have BK410 := n1_; have BK422 := n2_; have BK423 := n3_; have BK431 := n4_; have HB := n5_; clear n0_ n1_ n2_ n3_ n4_ n5_; (try clear hb); (try clear hb2); (try clear hk); (try clear hi); have hcz54_0 : w53.cell? ⟨gb431, 0, none⟩ = some (.int .i64 t428) := (blk_cell BK431.out 0).trans rfl; have hcz54_1 : w53.cell? ⟨gb431, 1, none⟩ = some (.int .i64 t429) := (blk_cell BK431.out 1).trans rfl; have hcz54_2 : w53.cell? ⟨gb431, 2, none⟩ = some (.int .i64 t430) := (blk_cell BK431.out 2).trans rfl; have hfz54_0 := blk_frozen BK431.out 0; have hfz54_1 := blk_frozen BK431.out 1; have hfz54_2 := blk_frozen BK431.out 2) | ((with_reducible refine gate_callee (f := 64) rfl ?_); refine goesL_ (some 126) rfl rfl Try.func64 (by kernel_rfl) rfl #[.agg #[.int .i64 t428, .int .i64 t429, .int .i64 t430]] rfl (by (try simp only [List.map_toArray, List.map_cons, List.map_nil]); first | done | rfl | (simp only [List.length_drop, List.length_take]; rfl)) ?_; (with_reducible refine (spec_LengthOf.calls t428 t429 t430 t434 t435 _ A15.out).mono ?_); rintro e w55 ⟨rfl, hb⟩; refine ⟨_, rfl, ?_⟩; have n0_ := Aside0.mk (blk_below (g := gb409) (o := .cells #[.int .i64 t403, .int .i64 t404, .int .i64 t405] 64 (0, 0)) (by (with_reducible repeat (first | refine blk_drewN ?_ _ | refine blk_drew ?_ | refine blk_alloc ?_ _)); exact BK409.out) hb); have n1_ := Aside0.mk (blk_below (g := gb410) (o := .cells #[.int .i64 t406, .int .i64 t407, .int .i64 t408] 64 (0, 0)) (by (with_reducible repeat (first | refine blk_drewN ?_ _ | refine blk_drew ?_ | refine blk_alloc ?_ _)); exact BK410.out) hb); have n2_ := Aside0.mk (blk_below (g := gb422) (o := .cells #[.int .i64 t415, .int .i64 t416, .int .i64 t417] 64 (0, 0)) (by (with_reducible repeat (first | refine blk_drewN ?_ _ | refine blk_drew ?_ | refine blk_alloc ?_ _)); exact BK422.out) hb); have n3_ := Aside0.mk (blk_below (g := gb423) (o := .cells #[.int .i64 t418, .int .i64 t419, .int .i64 t420] 64 (0, 0)) (by (with_reducible repeat (first | refine blk_drewN ?_ _ | refine blk_drew ?_ | refine blk_alloc ?_ _)); exact BK423.out) hb); have n4_ := Aside0.mk (blk_below (g := gb431) (o := .cells #[.int .i64 t428, .int .i64 t429, .int .i64 t430] 64 (0, 0)) (by (with_reducible repeat (first | refine blk_drewN ?_ _ | refine blk_drew ?_ | refine blk_alloc ?_ _)); exact BK431.out) hb); have n5_ := Aside0.mk (below_step (by repeat (first | (with_reducible first | exact HB.out | apply below_alloc | apply pw_below_drewN | apply below_drew1 | refine below_set ?_ GE409.out | refine below_set ?_ GE410.out | refine below_set ?_ GE422.out | refine below_set ?_ GE423.out | refine below_set ?_ GE431.out) | exact HB.out)) hb); clear BK409; clear BK410; clear BK422; clear BK423; clear BK431; clear HB; have BK409 := n0_; have BK410 := n1_; have BK422 := n2_; have BK423 := n3_; have BK431 := n4_; have HB := n5_; clear n0_ n1_ n2_ n3_ n4_ n5_; (try clear hb); (try clear hb2); (try clear hk); (try clear hi)) | ((with_reducible refine gate_callee (f := 75) rfl ?_); refine goesL_ (some 131) rfl rfl Try.func75 (by kernel_rfl) rfl #[.slice A1 l1.length c1] rfl (by (try simp only [List.map_toArray, List.map_cons, List.map_nil]); first | done | rfl | (simp only [List.length_drop, List.length_take]; rfl)) ?_; (with_reducible refine (spec_DrawSpeedRatio.calls _ _ l1 t436 t437 t438 t439 _ ?side1 ?side2 A16.out).mono ?_); (case side1 => repeat (first | exact (Kd.C_below HR1.out HB.out) | (with_reducible refine Kd.C_alloc ?_ _) | (with_reducible refine Kd.C_drewN ?_ _) | (with_reducible refine Kd.C_drew ?_))); (case side2 => exact HC1.out); rintro e w56 ⟨rfl, hb⟩; refine ⟨_, rfl, ?_⟩; have n0_ := Aside0.mk (blk_below (g := gb409) (o := .cells #[.int .i64 t403, .int .i64 t404, .int .i64 t405] 64 (0, 0)) (by (with_reducible repeat (first | refine blk_drewN ?_ _ | refine blk_drew ?_ | refine blk_alloc ?_ _)); exact BK409.out) hb); have n1_ := Aside0.mk (blk_below (g := gb410) (o := .cells #[.int .i64 t406, .int .i64 t407, .int .i64 t408] 64 (0, 0)) (by (with_reducible repeat (first | refine blk_drewN ?_ _ | refine blk_drew ?_ | refine blk_alloc ?_ _)); exact BK410.out) hb); have n2_ := Aside0.mk (blk_below (g := gb422) (o := .cells #[.int .i64 t415, .int .i64 t416, .int .i64 t417] 64 (0, 0)) (by (with_reducible repeat (first | refine blk_drewN ?_ _ | refine blk_drew ?_ | refine blk_alloc ?_ _)); exact BK422.out) hb); have n3_ := Aside0.mk (blk_below (g := gb423) (o := .cells #[.int .i64 t418, .int .i64 t419, .int .i64 t420] 64 (0, 0)) (by (with_reducible repeat (first | refine blk_drewN ?_ _ | refine blk_drew ?_ | refine blk_alloc ?_ _)); exact BK423.out) hb); have n4_ := Aside0.mk (blk_below (g := gb431) (o := .cells #[.int .i64 t428, .int .i64 t429, .int .i64 t430] 64 (0, 0)) (by (with_reducible repeat (first | refine blk_drewN ?_ _ | refine blk_drew ?_ | refine blk_alloc ?_ _)); exact BK431.out) hb); have n5_ := Aside0.mk (below_step (by repeat (first | (with_reducible first | exact HB.out | apply below_alloc | apply pw_below_drewN | apply below_drew1 | refine below_set ?_ GE409.out | refine below_set ?_ GE410.out | refine below_set ?_ GE422.out | refine below_set ?_ GE423.out | refine below_set ?_ GE431.out) | exact HB.out)) hb); clear BK409; clear BK410; clear BK422; clear BK423; clear BK431; clear HB; have BK409 := n0_; have BK410 := n1_; have BK422 := n2_; have BK423 := n3_; have BK431 := n4_; have HB := n5_; clear n0_ n1_ n2_ n3_ n4_ n5_; (try clear hb); (try clear hb2); (try clear hk); (try clear hi)) | ((with_reducible refine gate_dst (N := 30) rfl ?_); refine box_event ?hg (N := 30) ?hd (cs := #[.int .i64 0, .int .i64 0, .int .i64 0]) (t := 64) ?hr ?_; (case hd => rfl); (case hg => rfl); (case hr => first | (go_simp; done) | (go_simp; rfl)); intro gb440 hg w57 hbox hb; have n0_ := Aside0.mk (blk_below (g := gb409) (o := .cells #[.int .i64 t403, .int .i64 t404, .int .i64 t405] 64 (0, 0)) (by (with_reducible repeat (first | refine blk_drewN ?_ _ | refine blk_drew ?_ | refine blk_alloc ?_ _)); exact BK409.out) hb); have n1_ := Aside0.mk (blk_below (g := gb410) (o := .cells #[.int .i64 t406, .int .i64 t407, .int .i64 t408] 64 (0, 0)) (by (with_reducible repeat (first | refine blk_drewN ?_ _ | refine blk_drew ?_ | refine blk_alloc ?_ _)); exact BK410.out) hb); have n2_ := Aside0.mk (blk_below (g := gb422) (o := .cells #[.int .i64 t415, .int .i64 t416, .int .i64 t417] 64 (0, 0)) (by (with_reducible repeat (first | refine blk_drewN ?_ _ | refine blk_drew ?_ | refine blk_alloc ?_ _)); exact BK422.out) hb); have n3_ := Aside0.mk (blk_below (g := gb423) (o := .cells #[.int .i64 t418, .int .i64 t419, .int .i64 t420] 64 (0, 0)) (by (with_reducible repeat (first | refine blk_drewN ?_ _ | refine blk_drew ?_ | refine blk_alloc ?_ _)); exact BK423.out) hb); have n4_ := Aside0.mk (blk_below (g := gb431) (o := .cells #[.int .i64 t428, .int .i64 t429, .int .i64 t430] 64 (0, 0)) (by (with_reducible repeat (first | refine blk_drewN ?_ _ | refine blk_drew ?_ | refine blk_alloc ?_ _)); exact BK431.out) hb); have n5_ := Aside0.mk (below_step (by repeat (first | (with_reducible first | exact HB.out | apply below_alloc | apply pw_below_drewN | apply below_drew1 | refine below_set ?_ GE409.out | refine below_set ?_ GE410.out | refine below_set ?_ GE422.out | refine below_set ?_ GE423.out | refine below_set ?_ GE431.out) | exact HB.out)) hb); have n6_ := Aside0.mk (hbox); have n7_ := Aside0.mk ((by rw [hg]; exact (below_size (by repeat (first | (with_reducible first | exact HB.out | apply below_alloc | apply pw_below_drewN | apply below_drew1 | refine below_set ?_ GE409.out | refine below_set ?_ GE410.out | refine below_set ?_ GE422.out | refine below_set ?_ GE423.out | refine below_set ?_ GE431.out) | exact HB.out))) : w.heap.size ≤ gb440)); have n8_ := Aside0.mk ((by rw [hg]; exact (below_size (by repeat (first | (with_reducible first | exact HB.out | apply below_alloc | apply pw_below_drewN | apply below_drew1 | refine below_set ?_ GE409.out | refine below_set ?_ GE410.out | refine below_set ?_ GE422.out | refine below_set ?_ GE423.out | refine below_set ?_ GE431.out) | exact HB.out))) : w.heap.size ≤ gb440)); have n9_ := Aside0.mk ((by rw [hg]; exact Nat.ne_of_lt (blk_lt (g := gb409) (o := .cells #[.int .i64 t403, .int .i64 t404, .int .i64 t405] 64 (0, 0)) (by (with_reducible repeat (first | refine blk_drewN ?_ _ | refine blk_drew ?_ | refine blk_alloc ?_ _)); exact BK409.out)) : gb409 ≠ gb440)); have n10_ := Aside0.mk ((by rw [hg]; exact Nat.ne_of_gt (blk_lt (g := gb409) (o := .cells #[.int .i64 t403, .int .i64 t404, .int .i64 t405] 64 (0, 0)) (by (with_reducible repeat (first | refine blk_drewN ?_ _ | refine blk_drew ?_ | refine blk_alloc ?_ _)); exact BK409.out)) : gb440 ≠ gb409)); have n11_ := Aside0.mk ((by rw [hg]; exact Nat.ne_of_lt (blk_lt (g := gb410) (o := .cells #[.int .i64 t406, .int .i64 t407, .int .i64 t408] 64 (0, 0)) (by (with_reducible repeat (first | refine blk_drewN ?_ _ | refine blk_drew ?_ | refine blk_alloc ?_ _)); exact BK410.out)) : gb410 ≠ gb440)); have n12_ := Aside0.mk ((by rw [hg]; exact Nat.ne_of_gt (blk_lt (g := gb410) (o := .cells #[.int .i64 t406, .int .i64 t407, .int .i64 t408] 64 (0, 0)) (by (with_reducible repeat (first | refine blk_drewN ?_ _ | refine blk_drew ?_ | refine blk_alloc ?_ _)); exact BK410.out)) : gb440 ≠ gb410)); have n13_ := Aside0.mk ((by rw [hg]; exact Nat.ne_of_lt (blk_lt (g := gb422) (o := .cells #[.int .i64 t415, .int .i64 t416, .int .i64 t417] 64 (0, 0)) (by (with_reducible repeat (first | refine blk_drewN ?_ _ | refine blk_drew ?_ | refine blk_alloc ?_ _)); exact BK422.out)) : gb422 ≠ gb440)); have n14_ := Aside0.mk ((by rw [hg]; exact Nat.ne_of_gt (blk_lt (g := gb422) (o := .cells #[.int .i64 t415, .int .i64 t416, .int .i64 t417] 64 (0, 0)) (by (with_reducible repeat (first | refine blk_drewN ?_ _ | refine blk_drew ?_ | refine blk_alloc ?_ _)); exact BK422.out)) : gb440 ≠ gb422)); have n15_ := Aside0.mk ((by rw [hg]; exact Nat.ne_of_lt (blk_lt (g := gb423) (o := .cells #[.int .i64 t418, .int .i64 t419, .int .i64 t420] 64 (0, 0)) (by (with_reducible repeat (first | refine blk_drewN ?_ _ | refine blk_drew ?_ | refine blk_alloc ?_ _)); exact BK423.out)) : gb423 ≠ gb440)); have n16_ := Aside0.mk ((by rw [hg]; exact Nat.ne_of_gt (blk_lt (g := gb423) (o := .cells #[.int .i64 t418, .int .i64 t419, .int .i64 t420] 64 (0, 0)) (by (with_reducible repeat (first | refine blk_drewN ?_ _ | refine blk_drew ?_ | refine blk_alloc ?_ _)); exact BK423.out)) : gb440 ≠ gb423)); have n17_ := Aside0.mk ((by rw [hg]; exact Nat.ne_of_lt (blk_lt (g := gb431) (o := .cells #[.int .i64 t428, .int .i64 t429, .int .i64 t430] 64 (0, 0)) (by (with_reducible repeat (first | refine blk_drewN ?_ _ | refine blk_drew ?_ | refine blk_alloc ?_ _)); exact BK431.out)) : gb431 ≠ gb440)); have n18_ := Aside0.mk ((by rw [hg]; exact Nat.ne_of_gt (blk_lt (g := gb431) (o := .cells #[.int .i64 t428, .int .i64 t429, .int .i64 t430] 64 (0, 0)) (by (with_reducible repeat (first | refine blk_drewN ?_ _ | refine blk_drew ?_ | refine blk_alloc ?_ _)); exact BK431.out)) : gb440 ≠ gb431)); clear BK409; clear BK410; clear BK422; clear BK423; clear BK431; clear HB; have BK409 := n0_; have BK410 := n1_; have BK422 := n2_; have BK423 := n3_; have BK431 := n4_; have HB := n5_; have BK440 := n6_; have GW440 := n7_; have GE440 := n8_; have NB409_440 := n9_; have NB440_409 := n10_; have NB410_440 := n11_; have NB440_410 := n12_; have NB422_440 := n13_; have NB440_422 := n14_; have NB423_440 := n15_; have NB440_423 := n16_; have NB431_440 := n17_; have NB440_431 := n18_; clear n0_ n1_ n2_ n3_ n4_ n5_ n6_ n7_ n8_ n9_ n10_ n11_ n12_ n13_ n14_ n15_ n16_ n17_ n18_; clear hb hbox hg; have hnb58 := NB440_409.out; have hnc58 := NB409_440.out; have hnb59 := NB440_410.out; have hnc59 := NB410_440.out; have hnb60 := NB440_422.out; have hnc60 := NB422_440.out; have hnb61 := NB440_423.out; have hnc61 := NB423_440.out; have hnb62 := NB440_431.out; have hnc62 := NB431_440.out; have hcz63_0 : w57.cell? ⟨gb440, 0, none⟩ = some (.int .i64 0) := (blk_cell BK440.out 0).trans rfl; have hcz63_1 : w57.cell? ⟨gb440, 1, none⟩ = some (.int .i64 0) := (blk_cell BK440.out 1).trans rfl; have hcz63_2 : w57.cell? ⟨gb440, 2, none⟩ = some (.int .i64 0) := (blk_cell BK440.out 2).trans rfl; have hfz63_0 := blk_frozen BK440.out 0; have hfz63_1 := blk_frozen BK440.out 1; have hfz63_2 := blk_frozen BK440.out 2) | ((with_reducible refine gate_callee (f := 62) rfl ?_); refine goesL_ (some 137) rfl rfl Try.func62 (by kernel_rfl) rfl #[.agg #[.int .i64 t436, .int .i64 t437, .int .i64 t438], .int .i64 t439] rfl (by (try simp only [List.map_toArray, List.map_cons, List.map_nil]); first | done | rfl | (simp only [List.length_drop, List.length_take]; rfl)) ?_; (with_reducible refine (impl_SpeedRatio.calls k t436 t437 t438 t439 t441 t442 t443 _ A17.out).mono ?_); rintro e w64 ⟨rfl, hb⟩; refine ⟨_, rfl, ?_⟩; have n0_ := Aside0.mk (blk_below (g := gb409) (o := .cells #[.int .i64 t403, .int .i64 t404, .int .i64 t405] 64 (0, 0)) (by (with_reducible repeat (first | refine blk_drewN ?_ _ | refine blk_drew ?_ | refine blk_alloc ?_ _)); refine blk_far ?_ NB409_440.out _; (with_reducible repeat (first | refine blk_drewN ?_ _ | refine blk_drew ?_ | refine blk_alloc ?_ _)); refine blk_far ?_ NB409_440.out _; (with_reducible repeat (first | refine blk_drewN ?_ _ | refine blk_drew ?_ | refine blk_alloc ?_ _)); refine blk_far ?_ NB409_440.out _; (with_reducible repeat (first | refine blk_drewN ?_ _ | refine blk_drew ?_ | refine blk_alloc ?_ _)); exact BK409.out) hb); have n1_ := Aside0.mk (blk_below (g := gb410) (o := .cells #[.int .i64 t406, .int .i64 t407, .int .i64 t408] 64 (0, 0)) (by (with_reducible repeat (first | refine blk_drewN ?_ _ | refine blk_drew ?_ | refine blk_alloc ?_ _)); refine blk_far ?_ NB410_440.out _; (with_reducible repeat (first | refine blk_drewN ?_ _ | refine blk_drew ?_ | refine blk_alloc ?_ _)); refine blk_far ?_ NB410_440.out _; (with_reducible repeat (first | refine blk_drewN ?_ _ | refine blk_drew ?_ | refine blk_alloc ?_ _)); refine blk_far ?_ NB410_440.out _; (with_reducible repeat (first | refine blk_drewN ?_ _ | refine blk_drew ?_ | refine blk_alloc ?_ _)); exact BK410.out) hb); have n2_ := Aside0.mk (blk_below (g := gb422) (o := .cells #[.int .i64 t415, .int .i64 t416, .int .i64 t417] 64 (0, 0)) (by (with_reducible repeat (first | refine blk_drewN ?_ _ | refine blk_drew ?_ | refine blk_alloc ?_ _)); refine blk_far ?_ NB422_440.out _; (with_reducible repeat (first | refine blk_drewN ?_ _ | refine blk_drew ?_ | refine blk_alloc ?_ _)); refine blk_far ?_ NB422_440.out _; (with_reducible repeat (first | refine blk_drewN ?_ _ | refine blk_drew ?_ | refine blk_alloc ?_ _)); refine blk_far ?_ NB422_440.out _; (with_reducible repeat (first | refine blk_drewN ?_ _ | refine blk_drew ?_ | refine blk_alloc ?_ _)); exact BK422.out) hb); have n3_ := Aside0.mk (blk_below (g := gb423) (o := .cells #[.int .i64 t418, .int .i64 t419, .int .i64 t420] 64 (0, 0)) (by (with_reducible repeat (first | refine blk_drewN ?_ _ | refine blk_drew ?_ | refine blk_alloc ?_ _)); refine blk_far ?_ NB423_440.out _; (with_reducible repeat (first | refine blk_drewN ?_ _ | refine blk_drew ?_ | refine blk_alloc ?_ _)); refine blk_far ?_ NB423_440.out _; (with_reducible repeat (first | refine blk_drewN ?_ _ | refine blk_drew ?_ | refine blk_alloc ?_ _)); refine blk_far ?_ NB423_440.out _; (with_reducible repeat (first | refine blk_drewN ?_ _ | refine blk_drew ?_ | refine blk_alloc ?_ _)); exact BK423.out) hb); have n4_ := Aside0.mk (blk_below (g := gb431) (o := .cells #[.int .i64 t428, .int .i64 t429, .int .i64 t430] 64 (0, 0)) (by (with_reducible repeat (first | refine blk_drewN ?_ _ | refine blk_drew ?_ | refine blk_alloc ?_ _)); refine blk_far ?_ NB431_440.out _; (with_reducible repeat (first | refine blk_drewN ?_ _ | refine blk_drew ?_ | refine blk_alloc ?_ _)); refine blk_far ?_ NB431_440.out _; (with_reducible repeat (first | refine blk_drewN ?_ _ | refine blk_drew ?_ | refine blk_alloc ?_ _)); refine blk_far ?_ NB431_440.out _; (with_reducible repeat (first | refine blk_drewN ?_ _ | refine blk_drew ?_ | refine blk_alloc ?_ _)); exact BK431.out) hb); have n5_ := Aside0.mk (blk_below (g := gb440) (o := .cells #[.int .i64 t436, .int .i64 t437, .int .i64 t438] 64 (0, 0)) (by (with_reducible repeat (first | refine blk_drewN ?_ _ | refine blk_drew ?_ | refine blk_alloc ?_ _)); refine blk_put (cs := #[.int .i64 t436, .int .i64 t437, .int .i64 0]) ?_ 2 _ rfl; (with_reducible repeat (first | refine blk_drewN ?_ _ | refine blk_drew ?_ | refine blk_alloc ?_ _)); refine blk_put (cs := #[.int .i64 t436, .int .i64 0, .int .i64 0]) ?_ 1 _ rfl; (with_reducible repeat (first | refine blk_drewN ?_ _ | refine blk_drew ?_ | refine blk_alloc ?_ _)); refine blk_put (cs := #[.int .i64 0, .int .i64 0, .int .i64 0]) ?_ 0 _ rfl; (with_reducible repeat (first | refine blk_drewN ?_ _ | refine blk_drew ?_ | refine blk_alloc ?_ _)); exact BK440.out) hb); have n6_ := Aside0.mk (below_step (by repeat (first | (with_reducible first | exact HB.out | apply below_alloc | apply pw_below_drewN | apply below_drew1 | refine below_set ?_ GE409.out | refine below_set ?_ GE410.out | refine below_set ?_ GE422.out | refine below_set ?_ GE423.out | refine below_set ?_ GE431.out | refine below_set ?_ GE440.out) | exact HB.out)) hb); clear BK409; clear BK410; clear BK422; clear BK423; clear BK431; clear BK440; clear HB; have BK409 := n0_; have BK410 := n1_; have BK422 := n2_; have BK423 := n3_; have BK431 := n4_; have BK440 := n5_; have HB := n6_; clear n0_ n1_ n2_ n3_ n4_ n5_ n6_; (try clear hb); (try clear hb2); (try clear hk); (try clear hi); have hcz65_0 : w64.cell? ⟨gb440, 0, none⟩ = some (.int .i64 t436) := (blk_cell BK440.out 0).trans rfl; have hcz65_1 : w64.cell? ⟨gb440, 1, none⟩ = some (.int .i64 t437) := (blk_cell BK440.out 1).trans rfl; have hcz65_2 : w64.cell? ⟨gb440, 2, none⟩ = some (.int .i64 t438) := (blk_cell BK440.out 2).trans rfl; have hfz65_0 := blk_frozen BK440.out 0; have hfz65_1 := blk_frozen BK440.out 1; have hfz65_2 := blk_frozen BK440.out 2) | ((with_reducible refine gate_callee (f := 76) rfl ?_); refine goesL_ (some 144) rfl rfl Try.func76 (by kernel_rfl) rfl #[.agg #[.int .i64 t436, .int .i64 t437, .int .i64 t438], .int .i64 t439] rfl (by (try simp only [List.map_toArray, List.map_cons, List.map_nil]); first | done | rfl | (simp only [List.length_drop, List.length_take]; rfl)) ?_; (with_reducible refine (spec_SpeedRatio.calls k t436 t437 t438 t439 t444 t445 t446 _ A18.out).mono ?_); rintro e w66 ⟨rfl, hb⟩; refine ⟨_, rfl, ?_⟩; have n0_ := Aside0.mk (blk_below (g := gb409) (o := .cells #[.int .i64 t403, .int .i64 t404, .int .i64 t405] 64 (0, 0)) (by (with_reducible repeat (first | refine blk_drewN ?_ _ | refine blk_drew ?_ | refine blk_alloc ?_ _)); exact BK409.out) hb); have n1_ := Aside0.mk (blk_below (g := gb410) (o := .cells #[.int .i64 t406, .int .i64 t407, .int .i64 t408] 64 (0, 0)) (by (with_reducible repeat (first | refine blk_drewN ?_ _ | refine blk_drew ?_ | refine blk_alloc ?_ _)); exact BK410.out) hb); have n2_ := Aside0.mk (blk_below (g := gb422) (o := .cells #[.int .i64 t415, .int .i64 t416, .int .i64 t417] 64 (0, 0)) (by (with_reducible repeat (first | refine blk_drewN ?_ _ | refine blk_drew ?_ | refine blk_alloc ?_ _)); exact BK422.out) hb); have n3_ := Aside0.mk (blk_below (g := gb423) (o := .cells #[.int .i64 t418, .int .i64 t419, .int .i64 t420] 64 (0, 0)) (by (with_reducible repeat (first | refine blk_drewN ?_ _ | refine blk_drew ?_ | refine blk_alloc ?_ _)); exact BK423.out) hb); have n4_ := Aside0.mk (blk_below (g := gb431) (o := .cells #[.int .i64 t428, .int .i64 t429, .int .i64 t430] 64 (0, 0)) (by (with_reducible repeat (first | refine blk_drewN ?_ _ | refine blk_drew ?_ | refine blk_alloc ?_ _)); exact BK431.out) hb); have n5_ := Aside0.mk (blk_below (g := gb440) (o := .cells #[.int .i64 t436, .int .i64 t437, .int .i64 t438] 64 (0, 0)) (by (with_reducible repeat (first | refine blk_drewN ?_ _ | refine blk_drew ?_ | refine blk_alloc ?_ _)); exact BK440.out) hb); have n6_ := Aside0.mk (below_step (by repeat (first | (with_reducible first | exact HB.out | apply below_alloc | apply pw_below_drewN | apply below_drew1 | refine below_set ?_ GE409.out | refine below_set ?_ GE410.out | refine below_set ?_ GE422.out | refine below_set ?_ GE423.out | refine below_set ?_ GE431.out | refine below_set ?_ GE440.out) | exact HB.out)) hb); clear BK409; clear BK410; clear BK422; clear BK423; clear BK431; clear BK440; clear HB; have BK409 := n0_; have BK410 := n1_; have BK422 := n2_; have BK423 := n3_; have BK431 := n4_; have BK440 := n5_; have HB := n6_; clear n0_ n1_ n2_ n3_ n4_ n5_ n6_; (try clear hb); (try clear hb2); (try clear hk); (try clear hi)))
  (try simp only [Act.put, List.setIfInBounds_toArray, List.set_cons_zero, List.set_cons_succ])
  go_cut [206] (fun v206 wc => ∃ (kq : Nat) (x206_18 : Bool), v206 = .bool x206_18 ∧ Aside0 (laws_FnCores.j0 kq t396 t397 t398 t400 t401 t412 t413 t421 t425 t426 t433 t434 x206_18 t403 t404 t405 t406 t407 t408 t415 t416 t417 t418 t419 t420 t428 t429 t430 = some r) ∧ Aside0 (kq ≤ k) ∧ Aside0 (wc.heap[gb409]? = some (.cells #[.int .i64 t403, .int .i64 t404, .int .i64 t405] 64 (0, 0))) ∧ Aside0 (wc.heap[gb410]? = some (.cells #[.int .i64 t406, .int .i64 t407, .int .i64 t408] 64 (0, 0))) ∧ Aside0 (wc.heap[gb422]? = some (.cells #[.int .i64 t415, .int .i64 t416, .int .i64 t417] 64 (0, 0))) ∧ Aside0 (wc.heap[gb423]? = some (.cells #[.int .i64 t418, .int .i64 t419, .int .i64 t420] 64 (0, 0))) ∧ Aside0 (wc.heap[gb431]? = some (.cells #[.int .i64 t428, .int .i64 t429, .int .i64 t430] 64 (0, 0))) ∧ Aside0 (wc.heap[gb440]? = some (.cells #[.int .i64 t436, .int .i64 t437, .int .i64 t438] 64 (0, 0))) ∧ Aside0 (Below w.heap.size w wc))
  case first =>
   as_aux_lemma =>
    have H := HC19.out
    clear HC19
    by_cases c67 : (t400 != t402) = true
    ·rw [if_pos c67] at H
     have c67b0 : (t400 != t402) = true := c67
     (try (have c67b1 : decide (t400 = t402) = false := by simpa using c67))
     (try (have c67b2 : (t400 == t402) = false := by simpa using c67))
     (try (have c67b3 : ¬ (t400 = t402) := by simpa using c67))
     clear c67
     (first | rw [c67b0] | (simp only [i64_w, i32_w]; rw [c67b0]) | skip)
     have H' := Aside0.mk H
     clear H
     as_aux_lemma =>
      go_wp2
      go_meet
      case rel => exact ⟨_, (true), (by first | rfl | (simp; done) | (simp [*]; done)), H', ⟨by first | omega | exact Nat.le_refl _⟩, ⟨by (with_reducible repeat (first | refine blk_drewN ?_ _ | refine blk_drew ?_ | refine blk_alloc ?_ _)); exact BK409.out⟩, ⟨by (with_reducible repeat (first | refine blk_drewN ?_ _ | refine blk_drew ?_ | refine blk_alloc ?_ _)); exact BK410.out⟩, ⟨by (with_reducible repeat (first | refine blk_drewN ?_ _ | refine blk_drew ?_ | refine blk_alloc ?_ _)); exact BK422.out⟩, ⟨by (with_reducible repeat (first | refine blk_drewN ?_ _ | refine blk_drew ?_ | refine blk_alloc ?_ _)); exact BK423.out⟩, ⟨by (with_reducible repeat (first | refine blk_drewN ?_ _ | refine blk_drew ?_ | refine blk_alloc ?_ _)); exact BK431.out⟩, ⟨by (with_reducible repeat (first | refine blk_drewN ?_ _ | refine blk_drew ?_ | refine blk_alloc ?_ _)); exact BK440.out⟩, ⟨by repeat (first | (with_reducible first | exact HB.out | apply below_alloc | apply pw_below_drewN | apply below_drew1 | refine below_set ?_ GE409.out | refine below_set ?_ GE410.out | refine below_set ?_ GE422.out | refine below_set ?_ GE423.out | refine below_set ?_ GE431.out | refine below_set ?_ GE440.out) | exact HB.out)⟩⟩
    ·rw [if_neg c67] at H
     have c67b0 : (t400 != t402) = false := by simpa using c67
     (try (have c67b1 : decide (t400 = t402) = true := by simpa using c67))
     (try (have c67b2 : (t400 == t402) = true := by simpa using c67))
     clear c67
     (first | rw [c67b0] | (simp only [i64_w, i32_w]; rw [c67b0]) | skip)
     by_cases c68 : t399 = t401
     ·rw [if_pos c68] at H
      have c68b0 : (t399 == t401) = true := beq_iff_eq.mpr c68
      have c68b1 : (t399 != t401) = false := bne_eq_false_iff_eq.mpr c68
      clear c68
      by_cases c69 : (t412 != t414) = true
      ·rw [if_pos c69] at H
       have c69b0 : (t412 != t414) = true := c69
       (try (have c69b1 : decide (t412 = t414) = false := by simpa using c69))
       (try (have c69b2 : (t412 == t414) = false := by simpa using c69))
       (try (have c69b3 : ¬ (t412 = t414) := by simpa using c69))
       clear c69
       have H' := Aside0.mk H
       clear H
       as_aux_lemma =>
        go_wp2
        go_meet
        case rel => exact ⟨_, (true), (by first | rfl | (simp; done) | (simp [*]; done)), H', ⟨by first | omega | exact Nat.le_refl _⟩, ⟨by (with_reducible repeat (first | refine blk_drewN ?_ _ | refine blk_drew ?_ | refine blk_alloc ?_ _)); exact BK409.out⟩, ⟨by (with_reducible repeat (first | refine blk_drewN ?_ _ | refine blk_drew ?_ | refine blk_alloc ?_ _)); exact BK410.out⟩, ⟨by (with_reducible repeat (first | refine blk_drewN ?_ _ | refine blk_drew ?_ | refine blk_alloc ?_ _)); exact BK422.out⟩, ⟨by (with_reducible repeat (first | refine blk_drewN ?_ _ | refine blk_drew ?_ | refine blk_alloc ?_ _)); exact BK423.out⟩, ⟨by (with_reducible repeat (first | refine blk_drewN ?_ _ | refine blk_drew ?_ | refine blk_alloc ?_ _)); exact BK431.out⟩, ⟨by (with_reducible repeat (first | refine blk_drewN ?_ _ | refine blk_drew ?_ | refine blk_alloc ?_ _)); exact BK440.out⟩, ⟨by repeat (first | (with_reducible first | exact HB.out | apply below_alloc | apply pw_below_drewN | apply below_drew1 | refine below_set ?_ GE409.out | refine below_set ?_ GE410.out | refine below_set ?_ GE422.out | refine below_set ?_ GE423.out | refine below_set ?_ GE431.out | refine below_set ?_ GE440.out) | exact HB.out)⟩⟩
      ·rw [if_neg c69] at H
       have c69b0 : (t412 != t414) = false := by simpa using c69
       (try (have c69b1 : decide (t412 = t414) = true := by simpa using c69))
       (try (have c69b2 : (t412 == t414) = true := by simpa using c69))
       clear c69
       by_cases c70 : t411 = t413
       ·rw [if_pos c70] at H
        have c70b0 : (t411 == t413) = true := beq_iff_eq.mpr c70
        have c70b1 : (t411 != t413) = false := bne_eq_false_iff_eq.mpr c70
        clear c70
        by_cases c71 : (t425 != t427) = true
        ·rw [if_pos c71] at H
         have c71b0 : (t425 != t427) = true := c71
         (try (have c71b1 : decide (t425 = t427) = false := by simpa using c71))
         (try (have c71b2 : (t425 == t427) = false := by simpa using c71))
         (try (have c71b3 : ¬ (t425 = t427) := by simpa using c71))
         clear c71
         have H' := Aside0.mk H
         clear H
         as_aux_lemma =>
          go_wp2
          go_meet
          case rel => exact ⟨_, (true), (by first | rfl | (simp; done) | (simp [*]; done)), H', ⟨by first | omega | exact Nat.le_refl _⟩, ⟨by (with_reducible repeat (first | refine blk_drewN ?_ _ | refine blk_drew ?_ | refine blk_alloc ?_ _)); exact BK409.out⟩, ⟨by (with_reducible repeat (first | refine blk_drewN ?_ _ | refine blk_drew ?_ | refine blk_alloc ?_ _)); exact BK410.out⟩, ⟨by (with_reducible repeat (first | refine blk_drewN ?_ _ | refine blk_drew ?_ | refine blk_alloc ?_ _)); exact BK422.out⟩, ⟨by (with_reducible repeat (first | refine blk_drewN ?_ _ | refine blk_drew ?_ | refine blk_alloc ?_ _)); exact BK423.out⟩, ⟨by (with_reducible repeat (first | refine blk_drewN ?_ _ | refine blk_drew ?_ | refine blk_alloc ?_ _)); exact BK431.out⟩, ⟨by (with_reducible repeat (first | refine blk_drewN ?_ _ | refine blk_drew ?_ | refine blk_alloc ?_ _)); exact BK440.out⟩, ⟨by repeat (first | (with_reducible first | exact HB.out | apply below_alloc | apply pw_below_drewN | apply below_drew1 | refine below_set ?_ GE409.out | refine below_set ?_ GE410.out | refine below_set ?_ GE422.out | refine below_set ?_ GE423.out | refine below_set ?_ GE431.out | refine below_set ?_ GE440.out) | exact HB.out)⟩⟩
        ·rw [if_neg c71] at H
         have c71b0 : (t425 != t427) = false := by simpa using c71
         (try (have c71b1 : decide (t425 = t427) = true := by simpa using c71))
         (try (have c71b2 : (t425 == t427) = true := by simpa using c71))
         clear c71
         by_cases c72 : t424 = t426
         ·rw [if_pos c72] at H
          have c72b0 : (t424 == t426) = true := beq_iff_eq.mpr c72
          have c72b1 : (t424 != t426) = false := bne_eq_false_iff_eq.mpr c72
          clear c72
          by_cases c73 : (t433 != t435) = true
          ·rw [if_pos c73] at H
           have c73b0 : (t433 != t435) = true := c73
           (try (have c73b1 : decide (t433 = t435) = false := by simpa using c73))
           (try (have c73b2 : (t433 == t435) = false := by simpa using c73))
           (try (have c73b3 : ¬ (t433 = t435) := by simpa using c73))
           clear c73
           have H' := Aside0.mk H
           clear H
           as_aux_lemma =>
            go_wp2
            go_meet
            case rel => exact ⟨_, (true), (by first | rfl | (simp; done) | (simp [*]; done)), H', ⟨by first | omega | exact Nat.le_refl _⟩, ⟨by (with_reducible repeat (first | refine blk_drewN ?_ _ | refine blk_drew ?_ | refine blk_alloc ?_ _)); exact BK409.out⟩, ⟨by (with_reducible repeat (first | refine blk_drewN ?_ _ | refine blk_drew ?_ | refine blk_alloc ?_ _)); exact BK410.out⟩, ⟨by (with_reducible repeat (first | refine blk_drewN ?_ _ | refine blk_drew ?_ | refine blk_alloc ?_ _)); exact BK422.out⟩, ⟨by (with_reducible repeat (first | refine blk_drewN ?_ _ | refine blk_drew ?_ | refine blk_alloc ?_ _)); exact BK423.out⟩, ⟨by (with_reducible repeat (first | refine blk_drewN ?_ _ | refine blk_drew ?_ | refine blk_alloc ?_ _)); exact BK431.out⟩, ⟨by (with_reducible repeat (first | refine blk_drewN ?_ _ | refine blk_drew ?_ | refine blk_alloc ?_ _)); exact BK440.out⟩, ⟨by repeat (first | (with_reducible first | exact HB.out | apply below_alloc | apply pw_below_drewN | apply below_drew1 | refine below_set ?_ GE409.out | refine below_set ?_ GE410.out | refine below_set ?_ GE422.out | refine below_set ?_ GE423.out | refine below_set ?_ GE431.out | refine below_set ?_ GE440.out) | exact HB.out)⟩⟩
          ·rw [if_neg c73] at H
           have c73b0 : (t433 != t435) = false := by simpa using c73
           (try (have c73b1 : decide (t433 = t435) = true := by simpa using c73))
           (try (have c73b2 : (t433 == t435) = true := by simpa using c73))
           clear c73
           by_cases c74 : t432 = t434
           ·rw [if_pos c74] at H
            have c74b0 : (t432 == t434) = true := beq_iff_eq.mpr c74
            have c74b1 : (t432 != t434) = false := bne_eq_false_iff_eq.mpr c74
            clear c74
            by_cases c75 : (t443 != t446) = true
            ·rw [if_pos c75] at H
             have c75b0 : (t443 != t446) = true := c75
             (try (have c75b1 : decide (t443 = t446) = false := by simpa using c75))
             (try (have c75b2 : (t443 == t446) = false := by simpa using c75))
             (try (have c75b3 : ¬ (t443 = t446) := by simpa using c75))
             clear c75
             have H' := Aside0.mk H
             clear H
             as_aux_lemma =>
              go_wp2
              go_meet
              case rel => exact ⟨_, (true), (by first | rfl | (simp; done) | (simp [*]; done)), H', ⟨by first | omega | exact Nat.le_refl _⟩, ⟨by (with_reducible repeat (first | refine blk_drewN ?_ _ | refine blk_drew ?_ | refine blk_alloc ?_ _)); exact BK409.out⟩, ⟨by (with_reducible repeat (first | refine blk_drewN ?_ _ | refine blk_drew ?_ | refine blk_alloc ?_ _)); exact BK410.out⟩, ⟨by (with_reducible repeat (first | refine blk_drewN ?_ _ | refine blk_drew ?_ | refine blk_alloc ?_ _)); exact BK422.out⟩, ⟨by (with_reducible repeat (first | refine blk_drewN ?_ _ | refine blk_drew ?_ | refine blk_alloc ?_ _)); exact BK423.out⟩, ⟨by (with_reducible repeat (first | refine blk_drewN ?_ _ | refine blk_drew ?_ | refine blk_alloc ?_ _)); exact BK431.out⟩, ⟨by (with_reducible repeat (first | refine blk_drewN ?_ _ | refine blk_drew ?_ | refine blk_alloc ?_ _)); exact BK440.out⟩, ⟨by repeat (first | (with_reducible first | exact HB.out | apply below_alloc | apply pw_below_drewN | apply below_drew1 | refine below_set ?_ GE409.out | refine below_set ?_ GE410.out | refine below_set ?_ GE422.out | refine below_set ?_ GE423.out | refine below_set ?_ GE431.out | refine below_set ?_ GE440.out) | exact HB.out)⟩⟩
            ·rw [if_neg c75] at H
             have c75b0 : (t443 != t446) = false := by simpa using c75
             (try (have c75b1 : decide (t443 = t446) = true := by simpa using c75))
             (try (have c75b2 : (t443 == t446) = true := by simpa using c75))
             clear c75
             by_cases c76 : t441 = t444
             ·rw [if_pos c76] at H
              have c76b0 : (t441 == t444) = true := beq_iff_eq.mpr c76
              have c76b1 : (t441 != t444) = false := bne_eq_false_iff_eq.mpr c76
              clear c76
              by_cases c77 : t442 = t445
              ·rw [if_pos c77] at H
               have c77b0 : (t442 == t445) = true := beq_iff_eq.mpr c77
               have c77b1 : (t442 != t445) = false := bne_eq_false_iff_eq.mpr c77
               clear c77
               replace H := Option.bind_eq_some_iff.mp H
               obtain ⟨t447, A780, H⟩ := H
               (try dsimp only at H)
               have A78 := Aside0.mk A780
               clear A780
               have H' := Aside0.mk H
               clear H
               have hnb79 := NB431_409.out
               have hnc79 := NB409_431.out
               have hnb80 := NB431_410.out
               have hnc80 := NB410_431.out
               have hnb81 := NB431_422.out
               have hnc81 := NB422_431.out
               have hnb82 := NB431_423.out
               have hnc82 := NB423_431.out
               have hnb83 := NB431_440.out
               have hnc83 := NB440_431.out
               have hcz84_0 : w66.cell? ⟨gb431, 0, none⟩ = some (.int .i64 t428) := (blk_cell BK431.out 0).trans rfl
               have hcz84_1 : w66.cell? ⟨gb431, 1, none⟩ = some (.int .i64 t429) := (blk_cell BK431.out 1).trans rfl
               have hcz84_2 : w66.cell? ⟨gb431, 2, none⟩ = some (.int .i64 t430) := (blk_cell BK431.out 2).trans rfl
               have hfz84_0 := blk_frozen BK431.out 0
               have hfz84_1 := blk_frozen BK431.out 1
               have hfz84_2 := blk_frozen BK431.out 2
               as_aux_lemma =>
                go_wp2_with (first | (go_at_call 77; (with_reducible refine (impl_IsSpool.calls t428 t429 t430 t447 _ A78.out).mono ?_); rintro e w85 ⟨rfl, hb⟩; have n0_ := Aside0.mk (blk_below (g := gb409) (o := .cells #[.int .i64 t403, .int .i64 t404, .int .i64 t405] 64 (0, 0)) BK409.out hb); have n1_ := Aside0.mk (blk_below (g := gb410) (o := .cells #[.int .i64 t406, .int .i64 t407, .int .i64 t408] 64 (0, 0)) BK410.out hb); have n2_ := Aside0.mk (blk_below (g := gb422) (o := .cells #[.int .i64 t415, .int .i64 t416, .int .i64 t417] 64 (0, 0)) BK422.out hb); have n3_ := Aside0.mk (blk_below (g := gb423) (o := .cells #[.int .i64 t418, .int .i64 t419, .int .i64 t420] 64 (0, 0)) BK423.out hb); have n4_ := Aside0.mk (blk_below (g := gb431) (o := .cells #[.int .i64 t428, .int .i64 t429, .int .i64 t430] 64 (0, 0)) BK431.out hb); have n5_ := Aside0.mk (blk_below (g := gb440) (o := .cells #[.int .i64 t436, .int .i64 t437, .int .i64 t438] 64 (0, 0)) BK440.out hb); have n6_ := Aside0.mk (below_step HB.out hb); clear BK409; clear BK410; clear BK422; clear BK423; clear BK431; clear BK440; clear HB; have BK409 := n0_; have BK410 := n1_; have BK422 := n2_; have BK423 := n3_; have BK431 := n4_; have BK440 := n5_; have HB := n6_; clear n0_ n1_ n2_ n3_ n4_ n5_ n6_; (try clear hb); (try clear hb2); (try clear hk); (try clear hi)))
                go_meet
                case rel => exact ⟨_, ((t447 != t433)), (by first | rfl | (simp; done) | (simp [*]; done)), H', ⟨by first | omega | exact Nat.le_refl _⟩, ⟨by (with_reducible repeat (first | refine blk_drewN ?_ _ | refine blk_drew ?_ | refine blk_alloc ?_ _)); exact BK409.out⟩, ⟨by (with_reducible repeat (first | refine blk_drewN ?_ _ | refine blk_drew ?_ | refine blk_alloc ?_ _)); exact BK410.out⟩, ⟨by (with_reducible repeat (first | refine blk_drewN ?_ _ | refine blk_drew ?_ | refine blk_alloc ?_ _)); exact BK422.out⟩, ⟨by (with_reducible repeat (first | refine blk_drewN ?_ _ | refine blk_drew ?_ | refine blk_alloc ?_ _)); exact BK423.out⟩, ⟨by (with_reducible repeat (first | refine blk_drewN ?_ _ | refine blk_drew ?_ | refine blk_alloc ?_ _)); exact BK431.out⟩, ⟨by (with_reducible repeat (first | refine blk_drewN ?_ _ | refine blk_drew ?_ | refine blk_alloc ?_ _)); exact BK440.out⟩, ⟨by repeat (first | (with_reducible first | exact HB.out | apply below_alloc | apply pw_below_drewN | apply below_drew1 | refine below_set ?_ GE409.out | refine below_set ?_ GE410.out | refine below_set ?_ GE422.out | refine below_set ?_ GE423.out | refine below_set ?_ GE431.out | refine below_set ?_ GE440.out) | exact HB.out)⟩⟩
              ·rw [if_neg c77] at H
               have c77b0 : (t442 == t445) = false := beq_eq_false_iff_ne.mpr c77
               have c77b1 : (t442 != t445) = true := bne_iff_ne.mpr c77
               have H' := Aside0.mk H
               clear H
               as_aux_lemma =>
                go_wp2
                go_meet
                case rel => exact ⟨_, (true), (by first | rfl | (simp; done) | (simp [*]; done)), H', ⟨by first | omega | exact Nat.le_refl _⟩, ⟨by (with_reducible repeat (first | refine blk_drewN ?_ _ | refine blk_drew ?_ | refine blk_alloc ?_ _)); exact BK409.out⟩, ⟨by (with_reducible repeat (first | refine blk_drewN ?_ _ | refine blk_drew ?_ | refine blk_alloc ?_ _)); exact BK410.out⟩, ⟨by (with_reducible repeat (first | refine blk_drewN ?_ _ | refine blk_drew ?_ | refine blk_alloc ?_ _)); exact BK422.out⟩, ⟨by (with_reducible repeat (first | refine blk_drewN ?_ _ | refine blk_drew ?_ | refine blk_alloc ?_ _)); exact BK423.out⟩, ⟨by (with_reducible repeat (first | refine blk_drewN ?_ _ | refine blk_drew ?_ | refine blk_alloc ?_ _)); exact BK431.out⟩, ⟨by (with_reducible repeat (first | refine blk_drewN ?_ _ | refine blk_drew ?_ | refine blk_alloc ?_ _)); exact BK440.out⟩, ⟨by repeat (first | (with_reducible first | exact HB.out | apply below_alloc | apply pw_below_drewN | apply below_drew1 | refine below_set ?_ GE409.out | refine below_set ?_ GE410.out | refine below_set ?_ GE422.out | refine below_set ?_ GE423.out | refine below_set ?_ GE431.out | refine below_set ?_ GE440.out) | exact HB.out)⟩⟩
             ·rw [if_neg c76] at H
              have c76b0 : (t441 == t444) = false := beq_eq_false_iff_ne.mpr c76
              have c76b1 : (t441 != t444) = true := bne_iff_ne.mpr c76
              have H' := Aside0.mk H
              clear H
              as_aux_lemma =>
               go_wp2
               go_meet
               case rel => exact ⟨_, (true), (by first | rfl | (simp; done) | (simp [*]; done)), H', ⟨by first | omega | exact Nat.le_refl _⟩, ⟨by (with_reducible repeat (first | refine blk_drewN ?_ _ | refine blk_drew ?_ | refine blk_alloc ?_ _)); exact BK409.out⟩, ⟨by (with_reducible repeat (first | refine blk_drewN ?_ _ | refine blk_drew ?_ | refine blk_alloc ?_ _)); exact BK410.out⟩, ⟨by (with_reducible repeat (first | refine blk_drewN ?_ _ | refine blk_drew ?_ | refine blk_alloc ?_ _)); exact BK422.out⟩, ⟨by (with_reducible repeat (first | refine blk_drewN ?_ _ | refine blk_drew ?_ | refine blk_alloc ?_ _)); exact BK423.out⟩, ⟨by (with_reducible repeat (first | refine blk_drewN ?_ _ | refine blk_drew ?_ | refine blk_alloc ?_ _)); exact BK431.out⟩, ⟨by (with_reducible repeat (first | refine blk_drewN ?_ _ | refine blk_drew ?_ | refine blk_alloc ?_ _)); exact BK440.out⟩, ⟨by repeat (first | (with_reducible first | exact HB.out | apply below_alloc | apply pw_below_drewN | apply below_drew1 | refine below_set ?_ GE409.out | refine below_set ?_ GE410.out | refine below_set ?_ GE422.out | refine below_set ?_ GE423.out | refine below_set ?_ GE431.out | refine below_set ?_ GE440.out) | exact HB.out)⟩⟩
           ·rw [if_neg c74] at H
            have c74b0 : (t432 == t434) = false := beq_eq_false_iff_ne.mpr c74
            have c74b1 : (t432 != t434) = true := bne_iff_ne.mpr c74
            have H' := Aside0.mk H
            clear H
            as_aux_lemma =>
             go_wp2
             go_meet
             case rel => exact ⟨_, (true), (by first | rfl | (simp; done) | (simp [*]; done)), H', ⟨by first | omega | exact Nat.le_refl _⟩, ⟨by (with_reducible repeat (first | refine blk_drewN ?_ _ | refine blk_drew ?_ | refine blk_alloc ?_ _)); exact BK409.out⟩, ⟨by (with_reducible repeat (first | refine blk_drewN ?_ _ | refine blk_drew ?_ | refine blk_alloc ?_ _)); exact BK410.out⟩, ⟨by (with_reducible repeat (first | refine blk_drewN ?_ _ | refine blk_drew ?_ | refine blk_alloc ?_ _)); exact BK422.out⟩, ⟨by (with_reducible repeat (first | refine blk_drewN ?_ _ | refine blk_drew ?_ | refine blk_alloc ?_ _)); exact BK423.out⟩, ⟨by (with_reducible repeat (first | refine blk_drewN ?_ _ | refine blk_drew ?_ | refine blk_alloc ?_ _)); exact BK431.out⟩, ⟨by (with_reducible repeat (first | refine blk_drewN ?_ _ | refine blk_drew ?_ | refine blk_alloc ?_ _)); exact BK440.out⟩, ⟨by repeat (first | (with_reducible first | exact HB.out | apply below_alloc | apply pw_below_drewN | apply below_drew1 | refine below_set ?_ GE409.out | refine below_set ?_ GE410.out | refine below_set ?_ GE422.out | refine below_set ?_ GE423.out | refine below_set ?_ GE431.out | refine below_set ?_ GE440.out) | exact HB.out)⟩⟩
         ·rw [if_neg c72] at H
          have c72b0 : (t424 == t426) = false := beq_eq_false_iff_ne.mpr c72
          have c72b1 : (t424 != t426) = true := bne_iff_ne.mpr c72
          have H' := Aside0.mk H
          clear H
          as_aux_lemma =>
           go_wp2
           go_meet
           case rel => exact ⟨_, (true), (by first | rfl | (simp; done) | (simp [*]; done)), H', ⟨by first | omega | exact Nat.le_refl _⟩, ⟨by (with_reducible repeat (first | refine blk_drewN ?_ _ | refine blk_drew ?_ | refine blk_alloc ?_ _)); exact BK409.out⟩, ⟨by (with_reducible repeat (first | refine blk_drewN ?_ _ | refine blk_drew ?_ | refine blk_alloc ?_ _)); exact BK410.out⟩, ⟨by (with_reducible repeat (first | refine blk_drewN ?_ _ | refine blk_drew ?_ | refine blk_alloc ?_ _)); exact BK422.out⟩, ⟨by (with_reducible repeat (first | refine blk_drewN ?_ _ | refine blk_drew ?_ | refine blk_alloc ?_ _)); exact BK423.out⟩, ⟨by (with_reducible repeat (first | refine blk_drewN ?_ _ | refine blk_drew ?_ | refine blk_alloc ?_ _)); exact BK431.out⟩, ⟨by (with_reducible repeat (first | refine blk_drewN ?_ _ | refine blk_drew ?_ | refine blk_alloc ?_ _)); exact BK440.out⟩, ⟨by repeat (first | (with_reducible first | exact HB.out | apply below_alloc | apply pw_below_drewN | apply below_drew1 | refine below_set ?_ GE409.out | refine below_set ?_ GE410.out | refine below_set ?_ GE422.out | refine below_set ?_ GE423.out | refine below_set ?_ GE431.out | refine below_set ?_ GE440.out) | exact HB.out)⟩⟩
       ·rw [if_neg c70] at H
        have c70b0 : (t411 == t413) = false := beq_eq_false_iff_ne.mpr c70
        have c70b1 : (t411 != t413) = true := bne_iff_ne.mpr c70
        have H' := Aside0.mk H
        clear H
        as_aux_lemma =>
         go_wp2
         go_meet
         case rel => exact ⟨_, (true), (by first | rfl | (simp; done) | (simp [*]; done)), H', ⟨by first | omega | exact Nat.le_refl _⟩, ⟨by (with_reducible repeat (first | refine blk_drewN ?_ _ | refine blk_drew ?_ | refine blk_alloc ?_ _)); exact BK409.out⟩, ⟨by (with_reducible repeat (first | refine blk_drewN ?_ _ | refine blk_drew ?_ | refine blk_alloc ?_ _)); exact BK410.out⟩, ⟨by (with_reducible repeat (first | refine blk_drewN ?_ _ | refine blk_drew ?_ | refine blk_alloc ?_ _)); exact BK422.out⟩, ⟨by (with_reducible repeat (first | refine blk_drewN ?_ _ | refine blk_drew ?_ | refine blk_alloc ?_ _)); exact BK423.out⟩, ⟨by (with_reducible repeat (first | refine blk_drewN ?_ _ | refine blk_drew ?_ | refine blk_alloc ?_ _)); exact BK431.out⟩, ⟨by (with_reducible repeat (first | refine blk_drewN ?_ _ | refine blk_drew ?_ | refine blk_alloc ?_ _)); exact BK440.out⟩, ⟨by repeat (first | (with_reducible first | exact HB.out | apply below_alloc | apply pw_below_drewN | apply below_drew1 | refine below_set ?_ GE409.out | refine below_set ?_ GE410.out | refine below_set ?_ GE422.out | refine below_set ?_ GE423.out | refine below_set ?_ GE431.out | refine below_set ?_ GE440.out) | exact HB.out)⟩⟩
     ·rw [if_neg c68] at H
      have c68b0 : (t399 == t401) = false := beq_eq_false_iff_ne.mpr c68
      have c68b1 : (t399 != t401) = true := bne_iff_ne.mpr c68
      have H' := Aside0.mk H
      clear H
      as_aux_lemma =>
       go_wp2
       go_meet
       case rel => exact ⟨_, (true), (by first | rfl | (simp; done) | (simp [*]; done)), H', ⟨by first | omega | exact Nat.le_refl _⟩, ⟨by (with_reducible repeat (first | refine blk_drewN ?_ _ | refine blk_drew ?_ | refine blk_alloc ?_ _)); exact BK409.out⟩, ⟨by (with_reducible repeat (first | refine blk_drewN ?_ _ | refine blk_drew ?_ | refine blk_alloc ?_ _)); exact BK410.out⟩, ⟨by (with_reducible repeat (first | refine blk_drewN ?_ _ | refine blk_drew ?_ | refine blk_alloc ?_ _)); exact BK422.out⟩, ⟨by (with_reducible repeat (first | refine blk_drewN ?_ _ | refine blk_drew ?_ | refine blk_alloc ?_ _)); exact BK423.out⟩, ⟨by (with_reducible repeat (first | refine blk_drewN ?_ _ | refine blk_drew ?_ | refine blk_alloc ?_ _)); exact BK431.out⟩, ⟨by (with_reducible repeat (first | refine blk_drewN ?_ _ | refine blk_drew ?_ | refine blk_alloc ?_ _)); exact BK440.out⟩, ⟨by repeat (first | (with_reducible first | exact HB.out | apply below_alloc | apply pw_below_drewN | apply below_drew1 | refine below_set ?_ GE409.out | refine below_set ?_ GE410.out | refine below_set ?_ GE422.out | refine below_set ?_ GE423.out | refine below_set ?_ GE431.out | refine below_set ?_ GE440.out) | exact HB.out)⟩⟩
  case rest =>
   as_aux_lemma =>
    clear HC19
    (try clear c1); (try clear c2); (try clear p2); (try clear c3); (try clear c3b0); (try clear c4); (try clear c5); (try clear c6); (try clear p6); (try clear c7); (try clear c8); (try clear c11); (try clear c25); (try clear c35); (try clear c36); (try clear c37); (try clear c39); (try clear c40); (try clear c48); (try clear c49); (try clear c50); (try clear c51); (try clear c58); (try clear c59); (try clear c60); (try clear c61); (try clear c62); (try clear c63); (try clear c64); (try clear p64); (try clear c65); (try clear c66); (try clear c67); (try clear c67b0); (try clear c67b1); (try clear c67b2); (try clear c68); (try clear c68b0); (try clear c68b1); (try clear c69); (try clear c69b0); (try clear c69b1); (try clear c69b2); (try clear c70); (try clear c70b0); (try clear c70b1); (try clear c71); (try clear c71b0); (try clear c71b1); (try clear c71b2); (try clear c72); (try clear c72b0); (try clear c72b1); (try clear c73); (try clear c73b0); (try clear c73b1); (try clear c73b2); (try clear c74); (try clear c74b0); (try clear c74b1); (try clear c75); (try clear c75b0); (try clear c75b1); (try clear c75b2); (try clear c76); (try clear c76b0); (try clear c76b1); (try clear c77); (try clear c77b0); (try clear c77b1); (try clear c79); (try clear c80); (try clear c81); (try clear c82); (try clear c83); (try clear hcz26_0); (try clear hcz26_1); (try clear hcz26_2); (try clear hcz27_0); (try clear hcz27_1); (try clear hcz27_2); (try clear hcz29_0); (try clear hcz29_1); (try clear hcz29_2); (try clear hcz30_0); (try clear hcz30_1); (try clear hcz30_2); (try clear hcz38_0); (try clear hcz38_1); (try clear hcz38_2); (try clear hcz41_0); (try clear hcz41_1); (try clear hcz41_2); (try clear hcz43_0); (try clear hcz43_1); (try clear hcz43_2); (try clear hcz44_0); (try clear hcz44_1); (try clear hcz44_2); (try clear hcz52_0); (try clear hcz52_1); (try clear hcz52_2); (try clear hcz54_0); (try clear hcz54_1); (try clear hcz54_2); (try clear hcz63_0); (try clear hcz63_1); (try clear hcz63_2); (try clear hcz65_0); (try clear hcz65_1); (try clear hcz65_2); (try clear hcz84_0); (try clear hcz84_1); (try clear hcz84_2); (try clear hfz26_0); (try clear hfz26_1); (try clear hfz26_2); (try clear hfz27_0); (try clear hfz27_1); (try clear hfz27_2); (try clear hfz29_0); (try clear hfz29_1); (try clear hfz29_2); (try clear hfz30_0); (try clear hfz30_1); (try clear hfz30_2); (try clear hfz38_0); (try clear hfz38_1); (try clear hfz38_2); (try clear hfz41_0); (try clear hfz41_1); (try clear hfz41_2); (try clear hfz43_0); (try clear hfz43_1); (try clear hfz43_2); (try clear hfz44_0); (try clear hfz44_1); (try clear hfz44_2); (try clear hfz52_0); (try clear hfz52_1); (try clear hfz52_2); (try clear hfz54_0); (try clear hfz54_1); (try clear hfz54_2); (try clear hfz63_0); (try clear hfz63_1); (try clear hfz63_2); (try clear hfz65_0); (try clear hfz65_1); (try clear hfz65_2); (try clear hfz84_0); (try clear hfz84_1); (try clear hfz84_2)
    obtain ⟨kq, x206_18, rfl, HA, HJ18, BK409, BK410, BK422, BK423, BK431, BK440, HB⟩ := hcut
    cases kq with
    | zero => exact absurd HA.out (by simp [laws_FnCores.j0])
    | succ kj18 =>
     have H := HA.out
     clear HA
     simp only [laws_FnCores.j0] at H
     by_cases c86 : x206_18 = true
     ·subst c86
      have H1 : (some false) = some r := by rw [if_pos rfl] at H; exact H
      clear H
      have H := H1
      clear H1
      obtain rfl := Option.some.inj H
      as_aux_lemma =>
       go_wp2
       go_ret
       exact ⟨by first | rfl | (simp [errW_none, errW_some] <;> rfl) | (simp [*, errW_none, errW_some] <;> rfl), by repeat (first | (with_reducible first | exact HB.out | apply below_alloc | apply pw_below_drewN | apply below_drew1 | refine below_set ?_ GE409.out | refine below_set ?_ GE410.out | refine below_set ?_ GE422.out | refine below_set ?_ GE423.out | refine below_set ?_ GE431.out | refine below_set ?_ GE440.out) | exact HB.out)⟩
     ·replace c86 := Bool.eq_false_iff.mpr c86
      subst c86
      have H1 : (if t412 = true then ((impl_CompareSpools.f kj18 t406 t407 t408 t403 t404 t405).bind fun bt448 => (if bt448.2 = true then (if bt448.1 = (wrap64 (-t413)) then (laws_FnCores.j1 kj18 t396 t397 t398 t400 t401 t421 t425 t426 t433 t434 t415 t416 t417 t418 t419 t420 t428 t429 t430) else (some false)) else (some false))) else (laws_FnCores.j1 kj18 t396 t397 t398 t400 t401 t421 t425 t426 t433 t434 t415 t416 t417 t418 t419 t420 t428 t429 t430)) = some r := by rw [if_neg (show ¬ (false = true) by decide)] at H; exact H
      clear H
      have H := H1
      clear H1
      have HC87 := Aside0.mk H
      clear H
      go_upto_if 207 with (fail)
      go_cut [] (fun wc => ∃ (kq : Nat), Aside0 (laws_FnCores.j1 kq t396 t397 t398 t400 t401 t421 t425 t426 t433 t434 t415 t416 t417 t418 t419 t420 t428 t429 t430 = some r) ∧ Aside0 (kq ≤ kj18) ∧ Aside0 (wc.heap[gb409]? = some (.cells #[.int .i64 t403, .int .i64 t404, .int .i64 t405] 64 (0, 0))) ∧ Aside0 (wc.heap[gb410]? = some (.cells #[.int .i64 t406, .int .i64 t407, .int .i64 t408] 64 (0, 0))) ∧ Aside0 (wc.heap[gb422]? = some (.cells #[.int .i64 t415, .int .i64 t416, .int .i64 t417] 64 (0, 0))) ∧ Aside0 (wc.heap[gb423]? = some (.cells #[.int .i64 t418, .int .i64 t419, .int .i64 t420] 64 (0, 0))) ∧ Aside0 (wc.heap[gb431]? = some (.cells #[.int .i64 t428, .int .i64 t429, .int .i64 t430] 64 (0, 0))) ∧ Aside0 (wc.heap[gb440]? = some (.cells #[.int .i64 t436, .int .i64 t437, .int .i64 t438] 64 (0, 0))) ∧ Aside0 (Below w.heap.size w wc))
      case first =>
       as_aux_lemma =>
        have H := HC87.out
        clear HC87
        by_cases c88 : t412 = true
        ·subst c88
         have H1 : ((impl_CompareSpools.f kj18 t406 t407 t408 t403 t404 t405).bind fun bt448 => (if bt448.2 = true then (if bt448.1 = (wrap64 (-t413)) then (laws_FnCores.j1 kj18 t396 t397 t398 t400 t401 t421 t425 t426 t433 t434 t415 t416 t417 t418 t419 t420 t428 t429 t430) else (some false)) else (some false))) = some r := by rw [if_pos rfl] at H; exact H
         clear H
         have H := H1
         clear H1
         replace H := Option.bind_eq_some_iff.mp H
         obtain ⟨⟨t448, t449⟩, A890, H⟩ := H
         (try dsimp only at H)
         have A89 := Aside0.mk A890
         clear A890
         by_cases c90 : t449 = true
         ·subst c90
          have H1 : (if t448 = (wrap64 (-t413)) then (laws_FnCores.j1 kj18 t396 t397 t398 t400 t401 t421 t425 t426 t433 t434 t415 t416 t417 t418 t419 t420 t428 t429 t430) else (some false)) = some r := by rw [if_pos rfl] at H; exact H
          clear H
          have H := H1
          clear H1
          by_cases c91 : t448 = (wrap64 (-t413))
          ·rw [if_pos c91] at H
           have c91b0 : (t448 == (wrap64 (-t413))) = true := beq_iff_eq.mpr c91
           have c91b1 : (t448 != (wrap64 (-t413))) = false := bne_eq_false_iff_eq.mpr c91
           clear c91
           (first | rw [c91b0] | (simp only [i64_w, i32_w]; rw [c91b0]) | skip)
           have H' := Aside0.mk H
           clear H
           have hnb92 := NB410_409.out
           have hnc92 := NB409_410.out
           have hnb93 := NB410_422.out
           have hnc93 := NB422_410.out
           have hnb94 := NB410_423.out
           have hnc94 := NB423_410.out
           have hnb95 := NB410_431.out
           have hnc95 := NB431_410.out
           have hnb96 := NB410_440.out
           have hnc96 := NB440_410.out
           have hcz97_0 : wc.cell? ⟨gb410, 0, none⟩ = some (.int .i64 t406) := (blk_cell BK410.out 0).trans rfl
           have hcz97_1 : wc.cell? ⟨gb410, 1, none⟩ = some (.int .i64 t407) := (blk_cell BK410.out 1).trans rfl
           have hcz97_2 : wc.cell? ⟨gb410, 2, none⟩ = some (.int .i64 t408) := (blk_cell BK410.out 2).trans rfl
           have hfz97_0 := blk_frozen BK410.out 0
           have hfz97_1 := blk_frozen BK410.out 1
           have hfz97_2 := blk_frozen BK410.out 2
           have hnb98 := NB409_422.out
           have hnc98 := NB422_409.out
           have hnb99 := NB409_423.out
           have hnc99 := NB423_409.out
           have hnb100 := NB409_431.out
           have hnc100 := NB431_409.out
           have hnb101 := NB409_440.out
           have hnc101 := NB440_409.out
           have hcz102_0 : wc.cell? ⟨gb409, 0, none⟩ = some (.int .i64 t403) := (blk_cell BK409.out 0).trans rfl
           have hcz102_1 : wc.cell? ⟨gb409, 1, none⟩ = some (.int .i64 t404) := (blk_cell BK409.out 1).trans rfl
           have hcz102_2 : wc.cell? ⟨gb409, 2, none⟩ = some (.int .i64 t405) := (blk_cell BK409.out 2).trans rfl
           have hfz102_0 := blk_frozen BK409.out 0
           have hfz102_1 := blk_frozen BK409.out 1
           have hfz102_2 := blk_frozen BK409.out 2
           as_aux_lemma =>
            go_wp2_with (first | ((with_reducible refine gate_callee (f := 69) rfl ?_); refine goesL_ (some 211) rfl rfl Try.func69 (by kernel_rfl) rfl #[.agg #[.int .i64 t406, .int .i64 t407, .int .i64 t408], .agg #[.int .i64 t403, .int .i64 t404, .int .i64 t405]] rfl (by (try simp only [List.map_toArray, List.map_cons, List.map_nil]); first | done | rfl) ?_; (with_reducible refine (impl_CompareSpools.calls kj18 t406 t407 t408 t403 t404 t405 t448 true _ A89.out).mono ?_); rintro e w103 ⟨rfl, hb⟩; refine ⟨_, rfl, ?_⟩; have n0_ := Aside0.mk (blk_below (g := gb409) (o := .cells #[.int .i64 t403, .int .i64 t404, .int .i64 t405] 64 (0, 0)) BK409.out hb); have n1_ := Aside0.mk (blk_below (g := gb410) (o := .cells #[.int .i64 t406, .int .i64 t407, .int .i64 t408] 64 (0, 0)) BK410.out hb); have n2_ := Aside0.mk (blk_below (g := gb422) (o := .cells #[.int .i64 t415, .int .i64 t416, .int .i64 t417] 64 (0, 0)) BK422.out hb); have n3_ := Aside0.mk (blk_below (g := gb423) (o := .cells #[.int .i64 t418, .int .i64 t419, .int .i64 t420] 64 (0, 0)) BK423.out hb); have n4_ := Aside0.mk (blk_below (g := gb431) (o := .cells #[.int .i64 t428, .int .i64 t429, .int .i64 t430] 64 (0, 0)) BK431.out hb); have n5_ := Aside0.mk (blk_below (g := gb440) (o := .cells #[.int .i64 t436, .int .i64 t437, .int .i64 t438] 64 (0, 0)) BK440.out hb); have n6_ := Aside0.mk (below_step HB.out hb); clear BK409; clear BK410; clear BK422; clear BK423; clear BK431; clear BK440; clear HB; have BK409 := n0_; have BK410 := n1_; have BK422 := n2_; have BK423 := n3_; have BK431 := n4_; have BK440 := n5_; have HB := n6_; clear n0_ n1_ n2_ n3_ n4_ n5_ n6_; (try clear hb); (try clear hb2); (try clear hk); (try clear hi)))
            go_meet
            case rel => exact ⟨_, H', ⟨by have := HJ18.out; first | omega | exact Nat.le_refl _⟩, ⟨by (with_reducible repeat (first | refine blk_drewN ?_ _ | refine blk_drew ?_ | refine blk_alloc ?_ _)); exact BK409.out⟩, ⟨by (with_reducible repeat (first | refine blk_drewN ?_ _ | refine blk_drew ?_ | refine blk_alloc ?_ _)); exact BK410.out⟩, ⟨by (with_reducible repeat (first | refine blk_drewN ?_ _ | refine blk_drew ?_ | refine blk_alloc ?_ _)); exact BK422.out⟩, ⟨by (with_reducible repeat (first | refine blk_drewN ?_ _ | refine blk_drew ?_ | refine blk_alloc ?_ _)); exact BK423.out⟩, ⟨by (with_reducible repeat (first | refine blk_drewN ?_ _ | refine blk_drew ?_ | refine blk_alloc ?_ _)); exact BK431.out⟩, ⟨by (with_reducible repeat (first | refine blk_drewN ?_ _ | refine blk_drew ?_ | refine blk_alloc ?_ _)); exact BK440.out⟩, ⟨by repeat (first | (with_reducible first | exact HB.out | apply below_alloc | apply pw_below_drewN | apply below_drew1 | refine below_set ?_ GE409.out | refine below_set ?_ GE410.out | refine below_set ?_ GE422.out | refine below_set ?_ GE423.out | refine below_set ?_ GE431.out | refine below_set ?_ GE440.out) | exact HB.out)⟩⟩
          ·rw [if_neg c91] at H
           have c91b0 : (t448 == (wrap64 (-t413))) = false := beq_eq_false_iff_ne.mpr c91
           have c91b1 : (t448 != (wrap64 (-t413))) = true := bne_iff_ne.mpr c91
           (first | rw [c91b0] | (simp only [i64_w, i32_w]; rw [c91b0]) | skip)
           obtain rfl := Option.some.inj H
           have hnb104 := NB410_409.out
           have hnc104 := NB409_410.out
           have hnb105 := NB410_422.out
           have hnc105 := NB422_410.out
           have hnb106 := NB410_423.out
           have hnc106 := NB423_410.out
           have hnb107 := NB410_431.out
           have hnc107 := NB431_410.out
           have hnb108 := NB410_440.out
           have hnc108 := NB440_410.out
           have hcz109_0 : wc.cell? ⟨gb410, 0, none⟩ = some (.int .i64 t406) := (blk_cell BK410.out 0).trans rfl
           have hcz109_1 : wc.cell? ⟨gb410, 1, none⟩ = some (.int .i64 t407) := (blk_cell BK410.out 1).trans rfl
           have hcz109_2 : wc.cell? ⟨gb410, 2, none⟩ = some (.int .i64 t408) := (blk_cell BK410.out 2).trans rfl
           have hfz109_0 := blk_frozen BK410.out 0
           have hfz109_1 := blk_frozen BK410.out 1
           have hfz109_2 := blk_frozen BK410.out 2
           have hnb110 := NB409_422.out
           have hnc110 := NB422_409.out
           have hnb111 := NB409_423.out
           have hnc111 := NB423_409.out
           have hnb112 := NB409_431.out
           have hnc112 := NB431_409.out
           have hnb113 := NB409_440.out
           have hnc113 := NB440_409.out
           have hcz114_0 : wc.cell? ⟨gb409, 0, none⟩ = some (.int .i64 t403) := (blk_cell BK409.out 0).trans rfl
           have hcz114_1 : wc.cell? ⟨gb409, 1, none⟩ = some (.int .i64 t404) := (blk_cell BK409.out 1).trans rfl
           have hcz114_2 : wc.cell? ⟨gb409, 2, none⟩ = some (.int .i64 t405) := (blk_cell BK409.out 2).trans rfl
           have hfz114_0 := blk_frozen BK409.out 0
           have hfz114_1 := blk_frozen BK409.out 1
           have hfz114_2 := blk_frozen BK409.out 2
           as_aux_lemma =>
            go_wp2_with (first | ((with_reducible refine gate_callee (f := 69) rfl ?_); refine goesL_ (some 211) rfl rfl Try.func69 (by kernel_rfl) rfl #[.agg #[.int .i64 t406, .int .i64 t407, .int .i64 t408], .agg #[.int .i64 t403, .int .i64 t404, .int .i64 t405]] rfl (by (try simp only [List.map_toArray, List.map_cons, List.map_nil]); first | done | rfl) ?_; (with_reducible refine (impl_CompareSpools.calls kj18 t406 t407 t408 t403 t404 t405 t448 true _ A89.out).mono ?_); rintro e w115 ⟨rfl, hb⟩; refine ⟨_, rfl, ?_⟩; have n0_ := Aside0.mk (blk_below (g := gb409) (o := .cells #[.int .i64 t403, .int .i64 t404, .int .i64 t405] 64 (0, 0)) BK409.out hb); have n1_ := Aside0.mk (blk_below (g := gb410) (o := .cells #[.int .i64 t406, .int .i64 t407, .int .i64 t408] 64 (0, 0)) BK410.out hb); have n2_ := Aside0.mk (blk_below (g := gb422) (o := .cells #[.int .i64 t415, .int .i64 t416, .int .i64 t417] 64 (0, 0)) BK422.out hb); have n3_ := Aside0.mk (blk_below (g := gb423) (o := .cells #[.int .i64 t418, .int .i64 t419, .int .i64 t420] 64 (0, 0)) BK423.out hb); have n4_ := Aside0.mk (blk_below (g := gb431) (o := .cells #[.int .i64 t428, .int .i64 t429, .int .i64 t430] 64 (0, 0)) BK431.out hb); have n5_ := Aside0.mk (blk_below (g := gb440) (o := .cells #[.int .i64 t436, .int .i64 t437, .int .i64 t438] 64 (0, 0)) BK440.out hb); have n6_ := Aside0.mk (below_step HB.out hb); clear BK409; clear BK410; clear BK422; clear BK423; clear BK431; clear BK440; clear HB; have BK409 := n0_; have BK410 := n1_; have BK422 := n2_; have BK423 := n3_; have BK431 := n4_; have BK440 := n5_; have HB := n6_; clear n0_ n1_ n2_ n3_ n4_ n5_ n6_; (try clear hb); (try clear hb2); (try clear hk); (try clear hi)))
            go_ret
            exact ⟨by first | rfl | (simp [errW_none, errW_some] <;> rfl) | (simp [*, errW_none, errW_some] <;> rfl), by repeat (first | (with_reducible first | exact HB.out | apply below_alloc | apply pw_below_drewN | apply below_drew1 | refine below_set ?_ GE409.out | refine below_set ?_ GE410.out | refine below_set ?_ GE422.out | refine below_set ?_ GE423.out | refine below_set ?_ GE431.out | refine below_set ?_ GE440.out) | exact HB.out)⟩
         ·replace c90 := Bool.eq_false_iff.mpr c90
          subst c90
          have H1 : (some false) = some r := by rw [if_neg (show ¬ (false = true) by decide)] at H; exact H
          clear H
          have H := H1
          clear H1
          obtain rfl := Option.some.inj H
          have hnb116 := NB410_409.out
          have hnc116 := NB409_410.out
          have hnb117 := NB410_422.out
          have hnc117 := NB422_410.out
          have hnb118 := NB410_423.out
          have hnc118 := NB423_410.out
          have hnb119 := NB410_431.out
          have hnc119 := NB431_410.out
          have hnb120 := NB410_440.out
          have hnc120 := NB440_410.out
          have hcz121_0 : wc.cell? ⟨gb410, 0, none⟩ = some (.int .i64 t406) := (blk_cell BK410.out 0).trans rfl
          have hcz121_1 : wc.cell? ⟨gb410, 1, none⟩ = some (.int .i64 t407) := (blk_cell BK410.out 1).trans rfl
          have hcz121_2 : wc.cell? ⟨gb410, 2, none⟩ = some (.int .i64 t408) := (blk_cell BK410.out 2).trans rfl
          have hfz121_0 := blk_frozen BK410.out 0
          have hfz121_1 := blk_frozen BK410.out 1
          have hfz121_2 := blk_frozen BK410.out 2
          have hnb122 := NB409_422.out
          have hnc122 := NB422_409.out
          have hnb123 := NB409_423.out
          have hnc123 := NB423_409.out
          have hnb124 := NB409_431.out
          have hnc124 := NB431_409.out
          have hnb125 := NB409_440.out
          have hnc125 := NB440_409.out
          have hcz126_0 : wc.cell? ⟨gb409, 0, none⟩ = some (.int .i64 t403) := (blk_cell BK409.out 0).trans rfl
          have hcz126_1 : wc.cell? ⟨gb409, 1, none⟩ = some (.int .i64 t404) := (blk_cell BK409.out 1).trans rfl
          have hcz126_2 : wc.cell? ⟨gb409, 2, none⟩ = some (.int .i64 t405) := (blk_cell BK409.out 2).trans rfl
          have hfz126_0 := blk_frozen BK409.out 0
          have hfz126_1 := blk_frozen BK409.out 1
          have hfz126_2 := blk_frozen BK409.out 2
          as_aux_lemma =>
           go_wp2_with (first | ((with_reducible refine gate_callee (f := 69) rfl ?_); refine goesL_ (some 211) rfl rfl Try.func69 (by kernel_rfl) rfl #[.agg #[.int .i64 t406, .int .i64 t407, .int .i64 t408], .agg #[.int .i64 t403, .int .i64 t404, .int .i64 t405]] rfl (by (try simp only [List.map_toArray, List.map_cons, List.map_nil]); first | done | rfl) ?_; (with_reducible refine (impl_CompareSpools.calls kj18 t406 t407 t408 t403 t404 t405 t448 false _ A89.out).mono ?_); rintro e w127 ⟨rfl, hb⟩; refine ⟨_, rfl, ?_⟩; have n0_ := Aside0.mk (blk_below (g := gb409) (o := .cells #[.int .i64 t403, .int .i64 t404, .int .i64 t405] 64 (0, 0)) BK409.out hb); have n1_ := Aside0.mk (blk_below (g := gb410) (o := .cells #[.int .i64 t406, .int .i64 t407, .int .i64 t408] 64 (0, 0)) BK410.out hb); have n2_ := Aside0.mk (blk_below (g := gb422) (o := .cells #[.int .i64 t415, .int .i64 t416, .int .i64 t417] 64 (0, 0)) BK422.out hb); have n3_ := Aside0.mk (blk_below (g := gb423) (o := .cells #[.int .i64 t418, .int .i64 t419, .int .i64 t420] 64 (0, 0)) BK423.out hb); have n4_ := Aside0.mk (blk_below (g := gb431) (o := .cells #[.int .i64 t428, .int .i64 t429, .int .i64 t430] 64 (0, 0)) BK431.out hb); have n5_ := Aside0.mk (blk_below (g := gb440) (o := .cells #[.int .i64 t436, .int .i64 t437, .int .i64 t438] 64 (0, 0)) BK440.out hb); have n6_ := Aside0.mk (below_step HB.out hb); clear BK409; clear BK410; clear BK422; clear BK423; clear BK431; clear BK440; clear HB; have BK409 := n0_; have BK410 := n1_; have BK422 := n2_; have BK423 := n3_; have BK431 := n4_; have BK440 := n5_; have HB := n6_; clear n0_ n1_ n2_ n3_ n4_ n5_ n6_; (try clear hb); (try clear hb2); (try clear hk); (try clear hi)))
           go_ret
           exact ⟨by first | rfl | (simp [errW_none, errW_some] <;> rfl) | (simp [*, errW_none, errW_some] <;> rfl), by repeat (first | (with_reducible first | exact HB.out | apply below_alloc | apply pw_below_drewN | apply below_drew1 | refine below_set ?_ GE409.out | refine below_set ?_ GE410.out | refine below_set ?_ GE422.out | refine below_set ?_ GE423.out | refine below_set ?_ GE431.out | refine below_set ?_ GE440.out) | exact HB.out)⟩
        ·replace c88 := Bool.eq_false_iff.mpr c88
         subst c88
         have H1 : (laws_FnCores.j1 kj18 t396 t397 t398 t400 t401 t421 t425 t426 t433 t434 t415 t416 t417 t418 t419 t420 t428 t429 t430) = some r := by rw [if_neg (show ¬ (false = true) by decide)] at H; exact H
         clear H
         have H := H1
         clear H1
         have H' := Aside0.mk H
         clear H
         as_aux_lemma =>
          go_wp2
          go_meet
          case rel => exact ⟨_, H', ⟨by have := HJ18.out; first | omega | exact Nat.le_refl _⟩, ⟨by (with_reducible repeat (first | refine blk_drewN ?_ _ | refine blk_drew ?_ | refine blk_alloc ?_ _)); exact BK409.out⟩, ⟨by (with_reducible repeat (first | refine blk_drewN ?_ _ | refine blk_drew ?_ | refine blk_alloc ?_ _)); exact BK410.out⟩, ⟨by (with_reducible repeat (first | refine blk_drewN ?_ _ | refine blk_drew ?_ | refine blk_alloc ?_ _)); exact BK422.out⟩, ⟨by (with_reducible repeat (first | refine blk_drewN ?_ _ | refine blk_drew ?_ | refine blk_alloc ?_ _)); exact BK423.out⟩, ⟨by (with_reducible repeat (first | refine blk_drewN ?_ _ | refine blk_drew ?_ | refine blk_alloc ?_ _)); exact BK431.out⟩, ⟨by (with_reducible repeat (first | refine blk_drewN ?_ _ | refine blk_drew ?_ | refine blk_alloc ?_ _)); exact BK440.out⟩, ⟨by repeat (first | (with_reducible first | exact HB.out | apply below_alloc | apply pw_below_drewN | apply below_drew1 | refine below_set ?_ GE409.out | refine below_set ?_ GE410.out | refine below_set ?_ GE422.out | refine below_set ?_ GE423.out | refine below_set ?_ GE431.out | refine below_set ?_ GE440.out) | exact HB.out)⟩⟩
      case rest =>
       as_aux_lemma =>
        clear HC87
        (try clear c9); (try clear c10); (try clear c12); (try clear c86); (try clear c88); (try clear c90); (try clear c91); (try clear c91b0); (try clear c91b1); (try clear c92); (try clear c93); (try clear c94); (try clear c95); (try clear c96); (try clear c98); (try clear c99); (try clear c100); (try clear c101); (try clear c104); (try clear c105); (try clear c106); (try clear c107); (try clear c108); (try clear c110); (try clear c111); (try clear c112); (try clear c113); (try clear c116); (try clear c117); (try clear c118); (try clear c119); (try clear c120); (try clear c122); (try clear c123); (try clear c124); (try clear c125); (try clear hcz102_0); (try clear hcz102_1); (try clear hcz102_2); (try clear hcz109_0); (try clear hcz109_1); (try clear hcz109_2); (try clear hcz114_0); (try clear hcz114_1); (try clear hcz114_2); (try clear hcz121_0); (try clear hcz121_1); (try clear hcz121_2); (try clear hcz126_0); (try clear hcz126_1); (try clear hcz126_2); (try clear hcz97_0); (try clear hcz97_1); (try clear hcz97_2); (try clear hfz102_0); (try clear hfz102_1); (try clear hfz102_2); (try clear hfz109_0); (try clear hfz109_1); (try clear hfz109_2); (try clear hfz114_0); (try clear hfz114_1); (try clear hfz114_2); (try clear hfz121_0); (try clear hfz121_1); (try clear hfz121_2); (try clear hfz126_0); (try clear hfz126_1); (try clear hfz126_2); (try clear hfz97_0); (try clear hfz97_1); (try clear hfz97_2)
        obtain ⟨kq, HA, HJ86, BK409, BK410, BK422, BK423, BK431, BK440, HB⟩ := hcut
        cases kq with
        | zero => exact absurd HA.out (by simp [laws_FnCores.j1])
        | succ kj86 =>
         have H := HA.out
         clear HA
         simp only [laws_FnCores.j1] at H
         have HC128 := Aside0.mk H
         clear H
         go_upto_if 222 with (fail)
         go_cut [] (fun wc => ∃ (kq : Nat), Aside0 (laws_FnCores.j3 kq t396 t397 t398 t400 t401 t433 t434 t428 t429 t430 = some r) ∧ Aside0 (kq ≤ kj86) ∧ Aside0 (wc.heap[gb409]? = some (.cells #[.int .i64 t403, .int .i64 t404, .int .i64 t405] 64 (0, 0))) ∧ Aside0 (wc.heap[gb410]? = some (.cells #[.int .i64 t406, .int .i64 t407, .int .i64 t408] 64 (0, 0))) ∧ Aside0 (wc.heap[gb422]? = some (.cells #[.int .i64 t415, .int .i64 t416, .int .i64 t417] 64 (0, 0))) ∧ Aside0 (wc.heap[gb423]? = some (.cells #[.int .i64 t418, .int .i64 t419, .int .i64 t420] 64 (0, 0))) ∧ Aside0 (wc.heap[gb431]? = some (.cells #[.int .i64 t428, .int .i64 t429, .int .i64 t430] 64 (0, 0))) ∧ Aside0 (wc.heap[gb440]? = some (.cells #[.int .i64 t436, .int .i64 t437, .int .i64 t438] 64 (0, 0))) ∧ Aside0 (Below w.heap.size w wc))
         case first =>
          as_aux_lemma =>
           have H := HC128.out
           clear HC128
           by_cases c129 : t425 = true
           ·subst c129
            have H1 : ((impl_LengthWound.f t415 t416 t417 t421).bind fun bt450 => ((spec_LengthWound.f t415 t416 t417 t421).bind fun bt452 => ((impl_LengthWound.f t418 t419 t420 t426).bind fun bt454 => (if bt450.2 = true then (if bt452.2 = true then (if bt450.1 = bt452.1 then (if bt454.2 = true then (laws_FnCores.j2 kj86 t396 t397 t398 t400 t401 t426 t433 t434 bt452.1 (decide (bt454.1 < bt452.1)) t418 t419 t420 t428 t429 t430) else (laws_FnCores.j2 kj86 t396 t397 t398 t400 t401 t426 t433 t434 bt452.1 true t418 t419 t420 t428 t429 t430)) else (laws_FnCores.j2 kj86 t396 t397 t398 t400 t401 t426 t433 t434 bt452.1 true t418 t419 t420 t428 t429 t430)) else (laws_FnCores.j2 kj86 t396 t397 t398 t400 t401 t426 t433 t434 bt452.1 true t418 t419 t420 t428 t429 t430)) else (laws_FnCores.j2 kj86 t396 t397 t398 t400 t401 t426 t433 t434 bt452.1 true t418 t419 t420 t428 t429 t430))))) = some r := by rw [if_pos rfl] at H; exact H
            clear H
            have H := H1
            clear H1
            replace H := Option.bind_eq_some_iff.mp H
            obtain ⟨⟨t450, t451⟩, A1300, H⟩ := H
            (try dsimp only at H)
            have A130 := Aside0.mk A1300
            clear A1300
            replace H := Option.bind_eq_some_iff.mp H
            obtain ⟨⟨t452, t453⟩, A1310, H⟩ := H
            (try dsimp only at H)
            have A131 := Aside0.mk A1310
            clear A1310
            replace H := Option.bind_eq_some_iff.mp H
            obtain ⟨⟨t454, t455⟩, A1320, H⟩ := H
            (try dsimp only at H)
            have A132 := Aside0.mk A1320
            clear A1320
            have HC133 := Aside0.mk H
            clear H
            have hnb134 := NB422_409.out
            have hnc134 := NB409_422.out
            have hnb135 := NB422_410.out
            have hnc135 := NB410_422.out
            have hnb136 := NB422_423.out
            have hnc136 := NB423_422.out
            have hnb137 := NB422_431.out
            have hnc137 := NB431_422.out
            have hnb138 := NB422_440.out
            have hnc138 := NB440_422.out
            have hcz139_0 : wc.cell? ⟨gb422, 0, none⟩ = some (.int .i64 t415) := (blk_cell BK422.out 0).trans rfl
            have hcz139_1 : wc.cell? ⟨gb422, 1, none⟩ = some (.int .i64 t416) := (blk_cell BK422.out 1).trans rfl
            have hcz139_2 : wc.cell? ⟨gb422, 2, none⟩ = some (.int .i64 t417) := (blk_cell BK422.out 2).trans rfl
            have hfz139_0 := blk_frozen BK422.out 0
            have hfz139_1 := blk_frozen BK422.out 1
            have hfz139_2 := blk_frozen BK422.out 2
            go_upto_region 28 with (first | ((with_reducible refine gate_callee (f := 60) rfl ?_); refine goesL_ (some 226) rfl rfl Try.func60 (by kernel_rfl) rfl #[.agg #[.int .i64 t415, .int .i64 t416, .int .i64 t417], .int .i64 t421] rfl (by (try simp only [List.map_toArray, List.map_cons, List.map_nil]); first | done | rfl) ?_; (with_reducible refine (impl_LengthWound.calls t415 t416 t417 t421 t450 t451 _ A130.out).mono ?_); rintro e w140 ⟨rfl, hb⟩; refine ⟨_, rfl, ?_⟩; have n0_ := Aside0.mk (blk_below (g := gb409) (o := .cells #[.int .i64 t403, .int .i64 t404, .int .i64 t405] 64 (0, 0)) BK409.out hb); have n1_ := Aside0.mk (blk_below (g := gb410) (o := .cells #[.int .i64 t406, .int .i64 t407, .int .i64 t408] 64 (0, 0)) BK410.out hb); have n2_ := Aside0.mk (blk_below (g := gb422) (o := .cells #[.int .i64 t415, .int .i64 t416, .int .i64 t417] 64 (0, 0)) BK422.out hb); have n3_ := Aside0.mk (blk_below (g := gb423) (o := .cells #[.int .i64 t418, .int .i64 t419, .int .i64 t420] 64 (0, 0)) BK423.out hb); have n4_ := Aside0.mk (blk_below (g := gb431) (o := .cells #[.int .i64 t428, .int .i64 t429, .int .i64 t430] 64 (0, 0)) BK431.out hb); have n5_ := Aside0.mk (blk_below (g := gb440) (o := .cells #[.int .i64 t436, .int .i64 t437, .int .i64 t438] 64 (0, 0)) BK440.out hb); have n6_ := Aside0.mk (below_step HB.out hb); clear BK409; clear BK410; clear BK422; clear BK423; clear BK431; clear BK440; clear HB; have BK409 := n0_; have BK410 := n1_; have BK422 := n2_; have BK423 := n3_; have BK431 := n4_; have BK440 := n5_; have HB := n6_; clear n0_ n1_ n2_ n3_ n4_ n5_ n6_; (try clear hb); (try clear hb2); (try clear hk); (try clear hi); have hcz141_0 : w140.cell? ⟨gb422, 0, none⟩ = some (.int .i64 t415) := (blk_cell BK422.out 0).trans rfl; have hcz141_1 : w140.cell? ⟨gb422, 1, none⟩ = some (.int .i64 t416) := (blk_cell BK422.out 1).trans rfl; have hcz141_2 : w140.cell? ⟨gb422, 2, none⟩ = some (.int .i64 t417) := (blk_cell BK422.out 2).trans rfl; have hfz141_0 := blk_frozen BK422.out 0; have hfz141_1 := blk_frozen BK422.out 1; have hfz141_2 := blk_frozen BK422.out 2) | ((with_reducible refine gate_callee (f := 61) rfl ?_); refine goesL_ (some 232) rfl rfl Try.func61 (by kernel_rfl) rfl #[.agg #[.int .i64 t415, .int .i64 t416, .int .i64 t417], .int .i64 t421] rfl (by (try simp only [List.map_toArray, List.map_cons, List.map_nil]); first | done | rfl) ?_; (with_reducible refine (spec_LengthWound.calls t415 t416 t417 t421 t452 t453 _ A131.out).mono ?_); rintro e w142 ⟨rfl, hb⟩; refine ⟨_, rfl, ?_⟩; have n0_ := Aside0.mk (blk_below (g := gb409) (o := .cells #[.int .i64 t403, .int .i64 t404, .int .i64 t405] 64 (0, 0)) BK409.out hb); have n1_ := Aside0.mk (blk_below (g := gb410) (o := .cells #[.int .i64 t406, .int .i64 t407, .int .i64 t408] 64 (0, 0)) BK410.out hb); have n2_ := Aside0.mk (blk_below (g := gb422) (o := .cells #[.int .i64 t415, .int .i64 t416, .int .i64 t417] 64 (0, 0)) BK422.out hb); have n3_ := Aside0.mk (blk_below (g := gb423) (o := .cells #[.int .i64 t418, .int .i64 t419, .int .i64 t420] 64 (0, 0)) BK423.out hb); have n4_ := Aside0.mk (blk_below (g := gb431) (o := .cells #[.int .i64 t428, .int .i64 t429, .int .i64 t430] 64 (0, 0)) BK431.out hb); have n5_ := Aside0.mk (blk_below (g := gb440) (o := .cells #[.int .i64 t436, .int .i64 t437, .int .i64 t438] 64 (0, 0)) BK440.out hb); have n6_ := Aside0.mk (below_step HB.out hb); clear BK409; clear BK410; clear BK422; clear BK423; clear BK431; clear BK440; clear HB; have BK409 := n0_; have BK410 := n1_; have BK422 := n2_; have BK423 := n3_; have BK431 := n4_; have BK440 := n5_; have HB := n6_; clear n0_ n1_ n2_ n3_ n4_ n5_ n6_; (try clear hb); (try clear hb2); (try clear hk); (try clear hi); have hnb143 := NB423_409.out; have hnc143 := NB409_423.out; have hnb144 := NB423_410.out; have hnc144 := NB410_423.out; have hnb145 := NB423_431.out; have hnc145 := NB431_423.out; have hnb146 := NB423_440.out; have hnc146 := NB440_423.out; have hcz147_0 : w142.cell? ⟨gb423, 0, none⟩ = some (.int .i64 t418) := (blk_cell BK423.out 0).trans rfl; have hcz147_1 : w142.cell? ⟨gb423, 1, none⟩ = some (.int .i64 t419) := (blk_cell BK423.out 1).trans rfl; have hcz147_2 : w142.cell? ⟨gb423, 2, none⟩ = some (.int .i64 t420) := (blk_cell BK423.out 2).trans rfl; have hfz147_0 := blk_frozen BK423.out 0; have hfz147_1 := blk_frozen BK423.out 1; have hfz147_2 := blk_frozen BK423.out 2) | ((with_reducible refine gate_callee (f := 60) rfl ?_); refine goesL_ (some 238) rfl rfl Try.func60 (by kernel_rfl) rfl #[.agg #[.int .i64 t418, .int .i64 t419, .int .i64 t420], .int .i64 t426] rfl (by (try simp only [List.map_toArray, List.map_cons, List.map_nil]); first | done | rfl) ?_; (with_reducible refine (impl_LengthWound.calls t418 t419 t420 t426 t454 t455 _ A132.out).mono ?_); rintro e w148 ⟨rfl, hb⟩; refine ⟨_, rfl, ?_⟩; have n0_ := Aside0.mk (blk_below (g := gb409) (o := .cells #[.int .i64 t403, .int .i64 t404, .int .i64 t405] 64 (0, 0)) BK409.out hb); have n1_ := Aside0.mk (blk_below (g := gb410) (o := .cells #[.int .i64 t406, .int .i64 t407, .int .i64 t408] 64 (0, 0)) BK410.out hb); have n2_ := Aside0.mk (blk_below (g := gb422) (o := .cells #[.int .i64 t415, .int .i64 t416, .int .i64 t417] 64 (0, 0)) BK422.out hb); have n3_ := Aside0.mk (blk_below (g := gb423) (o := .cells #[.int .i64 t418, .int .i64 t419, .int .i64 t420] 64 (0, 0)) BK423.out hb); have n4_ := Aside0.mk (blk_below (g := gb431) (o := .cells #[.int .i64 t428, .int .i64 t429, .int .i64 t430] 64 (0, 0)) BK431.out hb); have n5_ := Aside0.mk (blk_below (g := gb440) (o := .cells #[.int .i64 t436, .int .i64 t437, .int .i64 t438] 64 (0, 0)) BK440.out hb); have n6_ := Aside0.mk (below_step HB.out hb); clear BK409; clear BK410; clear BK422; clear BK423; clear BK431; clear BK440; clear HB; have BK409 := n0_; have BK410 := n1_; have BK422 := n2_; have BK423 := n3_; have BK431 := n4_; have BK440 := n5_; have HB := n6_; clear n0_ n1_ n2_ n3_ n4_ n5_ n6_; (try clear hb); (try clear hb2); (try clear hk); (try clear hi)))
            (try simp only [Act.put, List.setIfInBounds_toArray, List.set_cons_zero, List.set_cons_succ])
            go_cut [260] (fun v260 wc => ∃ (kq : Nat) (x260_132 : Bool), v260 = .bool x260_132 ∧ Aside0 (laws_FnCores.j2 kq t396 t397 t398 t400 t401 t426 t433 t434 t452 x260_132 t418 t419 t420 t428 t429 t430 = some r) ∧ Aside0 (kq ≤ kj86) ∧ Aside0 (wc.heap[gb409]? = some (.cells #[.int .i64 t403, .int .i64 t404, .int .i64 t405] 64 (0, 0))) ∧ Aside0 (wc.heap[gb410]? = some (.cells #[.int .i64 t406, .int .i64 t407, .int .i64 t408] 64 (0, 0))) ∧ Aside0 (wc.heap[gb422]? = some (.cells #[.int .i64 t415, .int .i64 t416, .int .i64 t417] 64 (0, 0))) ∧ Aside0 (wc.heap[gb423]? = some (.cells #[.int .i64 t418, .int .i64 t419, .int .i64 t420] 64 (0, 0))) ∧ Aside0 (wc.heap[gb431]? = some (.cells #[.int .i64 t428, .int .i64 t429, .int .i64 t430] 64 (0, 0))) ∧ Aside0 (wc.heap[gb440]? = some (.cells #[.int .i64 t436, .int .i64 t437, .int .i64 t438] 64 (0, 0))) ∧ Aside0 (Below w.heap.size w wc))
            case first =>
             as_aux_lemma =>
              have H := HC133.out
              clear HC133
              by_cases c149 : t451 = true
              ·subst c149
               have H1 : (if t453 = true then (if t450 = t452 then (if t455 = true then (laws_FnCores.j2 kj86 t396 t397 t398 t400 t401 t426 t433 t434 t452 (decide (t454 < t452)) t418 t419 t420 t428 t429 t430) else (laws_FnCores.j2 kj86 t396 t397 t398 t400 t401 t426 t433 t434 t452 true t418 t419 t420 t428 t429 t430)) else (laws_FnCores.j2 kj86 t396 t397 t398 t400 t401 t426 t433 t434 t452 true t418 t419 t420 t428 t429 t430)) else (laws_FnCores.j2 kj86 t396 t397 t398 t400 t401 t426 t433 t434 t452 true t418 t419 t420 t428 t429 t430)) = some r := by rw [if_pos rfl] at H; exact H
               clear H
               have H := H1
               clear H1
               by_cases c150 : t453 = true
               ·subst c150
                have H1 : (if t450 = t452 then (if t455 = true then (laws_FnCores.j2 kj86 t396 t397 t398 t400 t401 t426 t433 t434 t452 (decide (t454 < t452)) t418 t419 t420 t428 t429 t430) else (laws_FnCores.j2 kj86 t396 t397 t398 t400 t401 t426 t433 t434 t452 true t418 t419 t420 t428 t429 t430)) else (laws_FnCores.j2 kj86 t396 t397 t398 t400 t401 t426 t433 t434 t452 true t418 t419 t420 t428 t429 t430)) = some r := by rw [if_pos rfl] at H; exact H
                clear H
                have H := H1
                clear H1
                by_cases c151 : t450 = t452
                ·rw [if_pos c151] at H
                 have c151b0 : (t450 == t452) = true := beq_iff_eq.mpr c151
                 have c151b1 : (t450 != t452) = false := bne_eq_false_iff_eq.mpr c151
                 clear c151
                 (first | rw [c151b0] | (simp only [i64_w, i32_w]; rw [c151b0]) | skip)
                 by_cases c152 : t455 = true
                 ·subst c152
                  have H1 : (laws_FnCores.j2 kj86 t396 t397 t398 t400 t401 t426 t433 t434 t452 (decide (t454 < t452)) t418 t419 t420 t428 t429 t430) = some r := by rw [if_pos rfl] at H; exact H
                  clear H
                  have H := H1
                  clear H1
                  have H' := Aside0.mk H
                  clear H
                  as_aux_lemma =>
                   go_wp2
                   go_meet
                   case rel => exact ⟨_, (decide (t454 < t452)), (by first | rfl | (simp; done) | (simp [*]; done)), H', ⟨by have := HJ18.out; have := HJ86.out; first | omega | exact Nat.le_refl _⟩, ⟨by (with_reducible repeat (first | refine blk_drewN ?_ _ | refine blk_drew ?_ | refine blk_alloc ?_ _)); exact BK409.out⟩, ⟨by (with_reducible repeat (first | refine blk_drewN ?_ _ | refine blk_drew ?_ | refine blk_alloc ?_ _)); exact BK410.out⟩, ⟨by (with_reducible repeat (first | refine blk_drewN ?_ _ | refine blk_drew ?_ | refine blk_alloc ?_ _)); exact BK422.out⟩, ⟨by (with_reducible repeat (first | refine blk_drewN ?_ _ | refine blk_drew ?_ | refine blk_alloc ?_ _)); exact BK423.out⟩, ⟨by (with_reducible repeat (first | refine blk_drewN ?_ _ | refine blk_drew ?_ | refine blk_alloc ?_ _)); exact BK431.out⟩, ⟨by (with_reducible repeat (first | refine blk_drewN ?_ _ | refine blk_drew ?_ | refine blk_alloc ?_ _)); exact BK440.out⟩, ⟨by repeat (first | (with_reducible first | exact HB.out | apply below_alloc | apply pw_below_drewN | apply below_drew1 | refine below_set ?_ GE409.out | refine below_set ?_ GE410.out | refine below_set ?_ GE422.out | refine below_set ?_ GE423.out | refine below_set ?_ GE431.out | refine below_set ?_ GE440.out) | exact HB.out)⟩⟩
                 ·replace c152 := Bool.eq_false_iff.mpr c152
                  subst c152
                  have H1 : (laws_FnCores.j2 kj86 t396 t397 t398 t400 t401 t426 t433 t434 t452 true t418 t419 t420 t428 t429 t430) = some r := by rw [if_neg (show ¬ (false = true) by decide)] at H; exact H
                  clear H
                  have H := H1
                  clear H1
                  have H' := Aside0.mk H
                  clear H
                  as_aux_lemma =>
                   go_wp2
                   go_meet
                   case rel => exact ⟨_, (true), (by first | rfl | (simp; done) | (simp [*]; done)), H', ⟨by have := HJ18.out; have := HJ86.out; first | omega | exact Nat.le_refl _⟩, ⟨by (with_reducible repeat (first | refine blk_drewN ?_ _ | refine blk_drew ?_ | refine blk_alloc ?_ _)); exact BK409.out⟩, ⟨by (with_reducible repeat (first | refine blk_drewN ?_ _ | refine blk_drew ?_ | refine blk_alloc ?_ _)); exact BK410.out⟩, ⟨by (with_reducible repeat (first | refine blk_drewN ?_ _ | refine blk_drew ?_ | refine blk_alloc ?_ _)); exact BK422.out⟩, ⟨by (with_reducible repeat (first | refine blk_drewN ?_ _ | refine blk_drew ?_ | refine blk_alloc ?_ _)); exact BK423.out⟩, ⟨by (with_reducible repeat (first | refine blk_drewN ?_ _ | refine blk_drew ?_ | refine blk_alloc ?_ _)); exact BK431.out⟩, ⟨by (with_reducible repeat (first | refine blk_drewN ?_ _ | refine blk_drew ?_ | refine blk_alloc ?_ _)); exact BK440.out⟩, ⟨by repeat (first | (with_reducible first | exact HB.out | apply below_alloc | apply pw_below_drewN | apply below_drew1 | refine below_set ?_ GE409.out | refine below_set ?_ GE410.out | refine below_set ?_ GE422.out | refine below_set ?_ GE423.out | refine below_set ?_ GE431.out | refine below_set ?_ GE440.out) | exact HB.out)⟩⟩
                ·rw [if_neg c151] at H
                 have c151b0 : (t450 == t452) = false := beq_eq_false_iff_ne.mpr c151
                 have c151b1 : (t450 != t452) = true := bne_iff_ne.mpr c151
                 (first | rw [c151b0] | (simp only [i64_w, i32_w]; rw [c151b0]) | skip)
                 have H' := Aside0.mk H
                 clear H
                 as_aux_lemma =>
                  go_wp2
                  go_meet
                  case rel => exact ⟨_, (true), (by first | rfl | (simp; done) | (simp [*]; done)), H', ⟨by have := HJ18.out; have := HJ86.out; first | omega | exact Nat.le_refl _⟩, ⟨by (with_reducible repeat (first | refine blk_drewN ?_ _ | refine blk_drew ?_ | refine blk_alloc ?_ _)); exact BK409.out⟩, ⟨by (with_reducible repeat (first | refine blk_drewN ?_ _ | refine blk_drew ?_ | refine blk_alloc ?_ _)); exact BK410.out⟩, ⟨by (with_reducible repeat (first | refine blk_drewN ?_ _ | refine blk_drew ?_ | refine blk_alloc ?_ _)); exact BK422.out⟩, ⟨by (with_reducible repeat (first | refine blk_drewN ?_ _ | refine blk_drew ?_ | refine blk_alloc ?_ _)); exact BK423.out⟩, ⟨by (with_reducible repeat (first | refine blk_drewN ?_ _ | refine blk_drew ?_ | refine blk_alloc ?_ _)); exact BK431.out⟩, ⟨by (with_reducible repeat (first | refine blk_drewN ?_ _ | refine blk_drew ?_ | refine blk_alloc ?_ _)); exact BK440.out⟩, ⟨by repeat (first | (with_reducible first | exact HB.out | apply below_alloc | apply pw_below_drewN | apply below_drew1 | refine below_set ?_ GE409.out | refine below_set ?_ GE410.out | refine below_set ?_ GE422.out | refine below_set ?_ GE423.out | refine below_set ?_ GE431.out | refine below_set ?_ GE440.out) | exact HB.out)⟩⟩
               ·replace c150 := Bool.eq_false_iff.mpr c150
                subst c150
                have H1 : (laws_FnCores.j2 kj86 t396 t397 t398 t400 t401 t426 t433 t434 t452 true t418 t419 t420 t428 t429 t430) = some r := by rw [if_neg (show ¬ (false = true) by decide)] at H; exact H
                clear H
                have H := H1
                clear H1
                have H' := Aside0.mk H
                clear H
                as_aux_lemma =>
                 go_wp2
                 go_meet
                 case rel => exact ⟨_, (true), (by first | rfl | (simp; done) | (simp [*]; done)), H', ⟨by have := HJ18.out; have := HJ86.out; first | omega | exact Nat.le_refl _⟩, ⟨by (with_reducible repeat (first | refine blk_drewN ?_ _ | refine blk_drew ?_ | refine blk_alloc ?_ _)); exact BK409.out⟩, ⟨by (with_reducible repeat (first | refine blk_drewN ?_ _ | refine blk_drew ?_ | refine blk_alloc ?_ _)); exact BK410.out⟩, ⟨by (with_reducible repeat (first | refine blk_drewN ?_ _ | refine blk_drew ?_ | refine blk_alloc ?_ _)); exact BK422.out⟩, ⟨by (with_reducible repeat (first | refine blk_drewN ?_ _ | refine blk_drew ?_ | refine blk_alloc ?_ _)); exact BK423.out⟩, ⟨by (with_reducible repeat (first | refine blk_drewN ?_ _ | refine blk_drew ?_ | refine blk_alloc ?_ _)); exact BK431.out⟩, ⟨by (with_reducible repeat (first | refine blk_drewN ?_ _ | refine blk_drew ?_ | refine blk_alloc ?_ _)); exact BK440.out⟩, ⟨by repeat (first | (with_reducible first | exact HB.out | apply below_alloc | apply pw_below_drewN | apply below_drew1 | refine below_set ?_ GE409.out | refine below_set ?_ GE410.out | refine below_set ?_ GE422.out | refine below_set ?_ GE423.out | refine below_set ?_ GE431.out | refine below_set ?_ GE440.out) | exact HB.out)⟩⟩
              ·replace c149 := Bool.eq_false_iff.mpr c149
               subst c149
               have H1 : (laws_FnCores.j2 kj86 t396 t397 t398 t400 t401 t426 t433 t434 t452 true t418 t419 t420 t428 t429 t430) = some r := by rw [if_neg (show ¬ (false = true) by decide)] at H; exact H
               clear H
               have H := H1
               clear H1
               have H' := Aside0.mk H
               clear H
               as_aux_lemma =>
                go_wp2
                go_meet
                case rel => exact ⟨_, (true), (by first | rfl | (simp; done) | (simp [*]; done)), H', ⟨by have := HJ18.out; have := HJ86.out; first | omega | exact Nat.le_refl _⟩, ⟨by (with_reducible repeat (first | refine blk_drewN ?_ _ | refine blk_drew ?_ | refine blk_alloc ?_ _)); exact BK409.out⟩, ⟨by (with_reducible repeat (first | refine blk_drewN ?_ _ | refine blk_drew ?_ | refine blk_alloc ?_ _)); exact BK410.out⟩, ⟨by (with_reducible repeat (first | refine blk_drewN ?_ _ | refine blk_drew ?_ | refine blk_alloc ?_ _)); exact BK422.out⟩, ⟨by (with_reducible repeat (first | refine blk_drewN ?_ _ | refine blk_drew ?_ | refine blk_alloc ?_ _)); exact BK423.out⟩, ⟨by (with_reducible repeat (first | refine blk_drewN ?_ _ | refine blk_drew ?_ | refine blk_alloc ?_ _)); exact BK431.out⟩, ⟨by (with_reducible repeat (first | refine blk_drewN ?_ _ | refine blk_drew ?_ | refine blk_alloc ?_ _)); exact BK440.out⟩, ⟨by repeat (first | (with_reducible first | exact HB.out | apply below_alloc | apply pw_below_drewN | apply below_drew1 | refine below_set ?_ GE409.out | refine below_set ?_ GE410.out | refine below_set ?_ GE422.out | refine below_set ?_ GE423.out | refine below_set ?_ GE431.out | refine below_set ?_ GE440.out) | exact HB.out)⟩⟩
            case rest =>
             as_aux_lemma =>
              clear HC133
              (try clear c13); (try clear c14); (try clear c15); (try clear c129); (try clear c134); (try clear c135); (try clear c136); (try clear c137); (try clear c138); (try clear c143); (try clear c144); (try clear c145); (try clear c146); (try clear c149); (try clear c150); (try clear c151); (try clear c151b0); (try clear c151b1); (try clear c152); (try clear hcz139_0); (try clear hcz139_1); (try clear hcz139_2); (try clear hcz141_0); (try clear hcz141_1); (try clear hcz141_2); (try clear hcz147_0); (try clear hcz147_1); (try clear hcz147_2); (try clear hfz139_0); (try clear hfz139_1); (try clear hfz139_2); (try clear hfz141_0); (try clear hfz141_1); (try clear hfz141_2); (try clear hfz147_0); (try clear hfz147_1); (try clear hfz147_2)
              obtain ⟨kq, x260_132, rfl, HA, HJ132, BK409, BK410, BK422, BK423, BK431, BK440, HB⟩ := hcut
              cases kq with
              | zero => exact absurd HA.out (by simp [laws_FnCores.j2])
              | succ kj132 =>
               have H := HA.out
               clear HA
               simp only [laws_FnCores.j2] at H
               by_cases c153 : x260_132 = true
               ·subst c153
                have H1 : (some false) = some r := by rw [if_pos rfl] at H; exact H
                clear H
                have H := H1
                clear H1
                obtain rfl := Option.some.inj H
                as_aux_lemma =>
                 go_wp2
                 go_ret
                 exact ⟨by first | rfl | (simp [errW_none, errW_some] <;> rfl) | (simp [*, errW_none, errW_some] <;> rfl), by repeat (first | (with_reducible first | exact HB.out | apply below_alloc | apply pw_below_drewN | apply below_drew1 | refine below_set ?_ GE409.out | refine below_set ?_ GE410.out | refine below_set ?_ GE422.out | refine below_set ?_ GE423.out | refine below_set ?_ GE431.out | refine below_set ?_ GE440.out) | exact HB.out)⟩
               ·replace c153 := Bool.eq_false_iff.mpr c153
                subst c153
                have H1 : (if t426 > 0 then ((impl_LengthWound.f t418 t419 t420 (wrap64 (t426 - 1))).bind fun bt456 => (if bt456.2 = true then (if bt456.1 ≥ t452 then (some false) else (laws_FnCores.j3 kj132 t396 t397 t398 t400 t401 t433 t434 t428 t429 t430)) else (some false))) else (laws_FnCores.j3 kj132 t396 t397 t398 t400 t401 t433 t434 t428 t429 t430)) = some r := by rw [if_neg (show ¬ (false = true) by decide)] at H; exact H
                clear H
                have H := H1
                clear H1
                by_cases c154 : t426 > 0
                ·rw [if_pos c154] at H
                 have c154b0 : decide (0 < t426) = true := decide_eq_true c154
                 clear c154
                 replace H := Option.bind_eq_some_iff.mp H
                 obtain ⟨⟨t456, t457⟩, A1550, H⟩ := H
                 (try dsimp only at H)
                 have A155 := Aside0.mk A1550
                 clear A1550
                 by_cases c156 : t457 = true
                 ·subst c156
                  have H1 : (if t456 ≥ t452 then (some false) else (laws_FnCores.j3 kj132 t396 t397 t398 t400 t401 t433 t434 t428 t429 t430)) = some r := by rw [if_pos rfl] at H; exact H
                  clear H
                  have H := H1
                  clear H1
                  by_cases c157 : t456 ≥ t452
                  ·rw [if_pos c157] at H
                   have c157b0 : decide (t452 ≤ t456) = true := decide_eq_true c157
                   clear c157
                   obtain rfl := Option.some.inj H
                   have hnb158 := NB423_409.out
                   have hnc158 := NB409_423.out
                   have hnb159 := NB423_410.out
                   have hnc159 := NB410_423.out
                   have hnb160 := NB423_422.out
                   have hnc160 := NB422_423.out
                   have hnb161 := NB423_431.out
                   have hnc161 := NB431_423.out
                   have hnb162 := NB423_440.out
                   have hnc162 := NB440_423.out
                   have hcz163_0 : wc.cell? ⟨gb423, 0, none⟩ = some (.int .i64 t418) := (blk_cell BK423.out 0).trans rfl
                   have hcz163_1 : wc.cell? ⟨gb423, 1, none⟩ = some (.int .i64 t419) := (blk_cell BK423.out 1).trans rfl
                   have hcz163_2 : wc.cell? ⟨gb423, 2, none⟩ = some (.int .i64 t420) := (blk_cell BK423.out 2).trans rfl
                   have hfz163_0 := blk_frozen BK423.out 0
                   have hfz163_1 := blk_frozen BK423.out 1
                   have hfz163_2 := blk_frozen BK423.out 2
                   as_aux_lemma =>
                    go_wp2_with (first | ((with_reducible refine gate_callee (f := 60) rfl ?_); refine goesL_ (some 267) rfl rfl Try.func60 (by kernel_rfl) rfl #[.agg #[.int .i64 t418, .int .i64 t419, .int .i64 t420], .int .i64 (wrap64 (t426 - 1))] rfl (by (try simp only [List.map_toArray, List.map_cons, List.map_nil]); first | done | rfl) ?_; (with_reducible refine (impl_LengthWound.calls t418 t419 t420 (wrap64 (t426 - 1)) t456 true _ A155.out).mono ?_); rintro e w164 ⟨rfl, hb⟩; refine ⟨_, rfl, ?_⟩; have n0_ := Aside0.mk (blk_below (g := gb409) (o := .cells #[.int .i64 t403, .int .i64 t404, .int .i64 t405] 64 (0, 0)) BK409.out hb); have n1_ := Aside0.mk (blk_below (g := gb410) (o := .cells #[.int .i64 t406, .int .i64 t407, .int .i64 t408] 64 (0, 0)) BK410.out hb); have n2_ := Aside0.mk (blk_below (g := gb422) (o := .cells #[.int .i64 t415, .int .i64 t416, .int .i64 t417] 64 (0, 0)) BK422.out hb); have n3_ := Aside0.mk (blk_below (g := gb423) (o := .cells #[.int .i64 t418, .int .i64 t419, .int .i64 t420] 64 (0, 0)) BK423.out hb); have n4_ := Aside0.mk (blk_below (g := gb431) (o := .cells #[.int .i64 t428, .int .i64 t429, .int .i64 t430] 64 (0, 0)) BK431.out hb); have n5_ := Aside0.mk (blk_below (g := gb440) (o := .cells #[.int .i64 t436, .int .i64 t437, .int .i64 t438] 64 (0, 0)) BK440.out hb); have n6_ := Aside0.mk (below_step HB.out hb); clear BK409; clear BK410; clear BK422; clear BK423; clear BK431; clear BK440; clear HB; have BK409 := n0_; have BK410 := n1_; have BK422 := n2_; have BK423 := n3_; have BK431 := n4_; have BK440 := n5_; have HB := n6_; clear n0_ n1_ n2_ n3_ n4_ n5_ n6_; (try clear hb); (try clear hb2); (try clear hk); (try clear hi)))
                    go_ret
                    exact ⟨by first | rfl | (simp [errW_none, errW_some] <;> rfl) | (simp [*, errW_none, errW_some] <;> rfl), by repeat (first | (with_reducible first | exact HB.out | apply below_alloc | apply pw_below_drewN | apply below_drew1 | refine below_set ?_ GE409.out | refine below_set ?_ GE410.out | refine below_set ?_ GE422.out | refine below_set ?_ GE423.out | refine below_set ?_ GE431.out | refine below_set ?_ GE440.out) | exact HB.out)⟩
                  ·rw [if_neg c157] at H
                   have c157b0 : decide (t452 ≤ t456) = false := decide_eq_false c157
                   clear c157
                   have H' := Aside0.mk H
                   clear H
                   have hnb165 := NB423_409.out
                   have hnc165 := NB409_423.out
                   have hnb166 := NB423_410.out
                   have hnc166 := NB410_423.out
                   have hnb167 := NB423_422.out
                   have hnc167 := NB422_423.out
                   have hnb168 := NB423_431.out
                   have hnc168 := NB431_423.out
                   have hnb169 := NB423_440.out
                   have hnc169 := NB440_423.out
                   have hcz170_0 : wc.cell? ⟨gb423, 0, none⟩ = some (.int .i64 t418) := (blk_cell BK423.out 0).trans rfl
                   have hcz170_1 : wc.cell? ⟨gb423, 1, none⟩ = some (.int .i64 t419) := (blk_cell BK423.out 1).trans rfl
                   have hcz170_2 : wc.cell? ⟨gb423, 2, none⟩ = some (.int .i64 t420) := (blk_cell BK423.out 2).trans rfl
                   have hfz170_0 := blk_frozen BK423.out 0
                   have hfz170_1 := blk_frozen BK423.out 1
                   have hfz170_2 := blk_frozen BK423.out 2
                   as_aux_lemma =>
                    go_wp2_with (first | ((with_reducible refine gate_callee (f := 60) rfl ?_); refine goesL_ (some 267) rfl rfl Try.func60 (by kernel_rfl) rfl #[.agg #[.int .i64 t418, .int .i64 t419, .int .i64 t420], .int .i64 (wrap64 (t426 - 1))] rfl (by (try simp only [List.map_toArray, List.map_cons, List.map_nil]); first | done | rfl) ?_; (with_reducible refine (impl_LengthWound.calls t418 t419 t420 (wrap64 (t426 - 1)) t456 true _ A155.out).mono ?_); rintro e w171 ⟨rfl, hb⟩; refine ⟨_, rfl, ?_⟩; have n0_ := Aside0.mk (blk_below (g := gb409) (o := .cells #[.int .i64 t403, .int .i64 t404, .int .i64 t405] 64 (0, 0)) BK409.out hb); have n1_ := Aside0.mk (blk_below (g := gb410) (o := .cells #[.int .i64 t406, .int .i64 t407, .int .i64 t408] 64 (0, 0)) BK410.out hb); have n2_ := Aside0.mk (blk_below (g := gb422) (o := .cells #[.int .i64 t415, .int .i64 t416, .int .i64 t417] 64 (0, 0)) BK422.out hb); have n3_ := Aside0.mk (blk_below (g := gb423) (o := .cells #[.int .i64 t418, .int .i64 t419, .int .i64 t420] 64 (0, 0)) BK423.out hb); have n4_ := Aside0.mk (blk_below (g := gb431) (o := .cells #[.int .i64 t428, .int .i64 t429, .int .i64 t430] 64 (0, 0)) BK431.out hb); have n5_ := Aside0.mk (blk_below (g := gb440) (o := .cells #[.int .i64 t436, .int .i64 t437, .int .i64 t438] 64 (0, 0)) BK440.out hb); have n6_ := Aside0.mk (below_step HB.out hb); clear BK409; clear BK410; clear BK422; clear BK423; clear BK431; clear BK440; clear HB; have BK409 := n0_; have BK410 := n1_; have BK422 := n2_; have BK423 := n3_; have BK431 := n4_; have BK440 := n5_; have HB := n6_; clear n0_ n1_ n2_ n3_ n4_ n5_ n6_; (try clear hb); (try clear hb2); (try clear hk); (try clear hi)))
                    go_meet
                    case rel => exact ⟨_, H', ⟨by have := HJ18.out; have := HJ86.out; have := HJ132.out; first | omega | exact Nat.le_refl _⟩, ⟨by (with_reducible repeat (first | refine blk_drewN ?_ _ | refine blk_drew ?_ | refine blk_alloc ?_ _)); exact BK409.out⟩, ⟨by (with_reducible repeat (first | refine blk_drewN ?_ _ | refine blk_drew ?_ | refine blk_alloc ?_ _)); exact BK410.out⟩, ⟨by (with_reducible repeat (first | refine blk_drewN ?_ _ | refine blk_drew ?_ | refine blk_alloc ?_ _)); exact BK422.out⟩, ⟨by (with_reducible repeat (first | refine blk_drewN ?_ _ | refine blk_drew ?_ | refine blk_alloc ?_ _)); exact BK423.out⟩, ⟨by (with_reducible repeat (first | refine blk_drewN ?_ _ | refine blk_drew ?_ | refine blk_alloc ?_ _)); exact BK431.out⟩, ⟨by (with_reducible repeat (first | refine blk_drewN ?_ _ | refine blk_drew ?_ | refine blk_alloc ?_ _)); exact BK440.out⟩, ⟨by repeat (first | (with_reducible first | exact HB.out | apply below_alloc | apply pw_below_drewN | apply below_drew1 | refine below_set ?_ GE409.out | refine below_set ?_ GE410.out | refine below_set ?_ GE422.out | refine below_set ?_ GE423.out | refine below_set ?_ GE431.out | refine below_set ?_ GE440.out) | exact HB.out)⟩⟩
                 ·replace c156 := Bool.eq_false_iff.mpr c156
                  subst c156
                  have H1 : (some false) = some r := by rw [if_neg (show ¬ (false = true) by decide)] at H; exact H
                  clear H
                  have H := H1
                  clear H1
                  obtain rfl := Option.some.inj H
                  have hnb172 := NB423_409.out
                  have hnc172 := NB409_423.out
                  have hnb173 := NB423_410.out
                  have hnc173 := NB410_423.out
                  have hnb174 := NB423_422.out
                  have hnc174 := NB422_423.out
                  have hnb175 := NB423_431.out
                  have hnc175 := NB431_423.out
                  have hnb176 := NB423_440.out
                  have hnc176 := NB440_423.out
                  have hcz177_0 : wc.cell? ⟨gb423, 0, none⟩ = some (.int .i64 t418) := (blk_cell BK423.out 0).trans rfl
                  have hcz177_1 : wc.cell? ⟨gb423, 1, none⟩ = some (.int .i64 t419) := (blk_cell BK423.out 1).trans rfl
                  have hcz177_2 : wc.cell? ⟨gb423, 2, none⟩ = some (.int .i64 t420) := (blk_cell BK423.out 2).trans rfl
                  have hfz177_0 := blk_frozen BK423.out 0
                  have hfz177_1 := blk_frozen BK423.out 1
                  have hfz177_2 := blk_frozen BK423.out 2
                  as_aux_lemma =>
                   go_wp2_with (first | ((with_reducible refine gate_callee (f := 60) rfl ?_); refine goesL_ (some 267) rfl rfl Try.func60 (by kernel_rfl) rfl #[.agg #[.int .i64 t418, .int .i64 t419, .int .i64 t420], .int .i64 (wrap64 (t426 - 1))] rfl (by (try simp only [List.map_toArray, List.map_cons, List.map_nil]); first | done | rfl) ?_; (with_reducible refine (impl_LengthWound.calls t418 t419 t420 (wrap64 (t426 - 1)) t456 false _ A155.out).mono ?_); rintro e w178 ⟨rfl, hb⟩; refine ⟨_, rfl, ?_⟩; have n0_ := Aside0.mk (blk_below (g := gb409) (o := .cells #[.int .i64 t403, .int .i64 t404, .int .i64 t405] 64 (0, 0)) BK409.out hb); have n1_ := Aside0.mk (blk_below (g := gb410) (o := .cells #[.int .i64 t406, .int .i64 t407, .int .i64 t408] 64 (0, 0)) BK410.out hb); have n2_ := Aside0.mk (blk_below (g := gb422) (o := .cells #[.int .i64 t415, .int .i64 t416, .int .i64 t417] 64 (0, 0)) BK422.out hb); have n3_ := Aside0.mk (blk_below (g := gb423) (o := .cells #[.int .i64 t418, .int .i64 t419, .int .i64 t420] 64 (0, 0)) BK423.out hb); have n4_ := Aside0.mk (blk_below (g := gb431) (o := .cells #[.int .i64 t428, .int .i64 t429, .int .i64 t430] 64 (0, 0)) BK431.out hb); have n5_ := Aside0.mk (blk_below (g := gb440) (o := .cells #[.int .i64 t436, .int .i64 t437, .int .i64 t438] 64 (0, 0)) BK440.out hb); have n6_ := Aside0.mk (below_step HB.out hb); clear BK409; clear BK410; clear BK422; clear BK423; clear BK431; clear BK440; clear HB; have BK409 := n0_; have BK410 := n1_; have BK422 := n2_; have BK423 := n3_; have BK431 := n4_; have BK440 := n5_; have HB := n6_; clear n0_ n1_ n2_ n3_ n4_ n5_ n6_; (try clear hb); (try clear hb2); (try clear hk); (try clear hi)))
                   go_ret
                   exact ⟨by first | rfl | (simp [errW_none, errW_some] <;> rfl) | (simp [*, errW_none, errW_some] <;> rfl), by repeat (first | (with_reducible first | exact HB.out | apply below_alloc | apply pw_below_drewN | apply below_drew1 | refine below_set ?_ GE409.out | refine below_set ?_ GE410.out | refine below_set ?_ GE422.out | refine below_set ?_ GE423.out | refine below_set ?_ GE431.out | refine below_set ?_ GE440.out) | exact HB.out)⟩
                ·rw [if_neg c154] at H
                 have c154b0 : decide (0 < t426) = false := decide_eq_false c154
                 clear c154
                 have H' := Aside0.mk H
                 clear H
                 as_aux_lemma =>
                  go_wp2
                  go_meet
                  case rel => exact ⟨_, H', ⟨by have := HJ18.out; have := HJ86.out; have := HJ132.out; first | omega | exact Nat.le_refl _⟩, ⟨by (with_reducible repeat (first | refine blk_drewN ?_ _ | refine blk_drew ?_ | refine blk_alloc ?_ _)); exact BK409.out⟩, ⟨by (with_reducible repeat (first | refine blk_drewN ?_ _ | refine blk_drew ?_ | refine blk_alloc ?_ _)); exact BK410.out⟩, ⟨by (with_reducible repeat (first | refine blk_drewN ?_ _ | refine blk_drew ?_ | refine blk_alloc ?_ _)); exact BK422.out⟩, ⟨by (with_reducible repeat (first | refine blk_drewN ?_ _ | refine blk_drew ?_ | refine blk_alloc ?_ _)); exact BK423.out⟩, ⟨by (with_reducible repeat (first | refine blk_drewN ?_ _ | refine blk_drew ?_ | refine blk_alloc ?_ _)); exact BK431.out⟩, ⟨by (with_reducible repeat (first | refine blk_drewN ?_ _ | refine blk_drew ?_ | refine blk_alloc ?_ _)); exact BK440.out⟩, ⟨by repeat (first | (with_reducible first | exact HB.out | apply below_alloc | apply pw_below_drewN | apply below_drew1 | refine below_set ?_ GE409.out | refine below_set ?_ GE410.out | refine below_set ?_ GE422.out | refine below_set ?_ GE423.out | refine below_set ?_ GE431.out | refine below_set ?_ GE440.out) | exact HB.out)⟩⟩
           ·replace c129 := Bool.eq_false_iff.mpr c129
            subst c129
            have H1 : (laws_FnCores.j3 kj86 t396 t397 t398 t400 t401 t433 t434 t428 t429 t430) = some r := by rw [if_neg (show ¬ (false = true) by decide)] at H; exact H
            clear H
            have H := H1
            clear H1
            have H' := Aside0.mk H
            clear H
            as_aux_lemma =>
             go_wp2
             go_meet
             case rel => exact ⟨_, H', ⟨by have := HJ18.out; have := HJ86.out; first | omega | exact Nat.le_refl _⟩, ⟨by (with_reducible repeat (first | refine blk_drewN ?_ _ | refine blk_drew ?_ | refine blk_alloc ?_ _)); exact BK409.out⟩, ⟨by (with_reducible repeat (first | refine blk_drewN ?_ _ | refine blk_drew ?_ | refine blk_alloc ?_ _)); exact BK410.out⟩, ⟨by (with_reducible repeat (first | refine blk_drewN ?_ _ | refine blk_drew ?_ | refine blk_alloc ?_ _)); exact BK422.out⟩, ⟨by (with_reducible repeat (first | refine blk_drewN ?_ _ | refine blk_drew ?_ | refine blk_alloc ?_ _)); exact BK423.out⟩, ⟨by (with_reducible repeat (first | refine blk_drewN ?_ _ | refine blk_drew ?_ | refine blk_alloc ?_ _)); exact BK431.out⟩, ⟨by (with_reducible repeat (first | refine blk_drewN ?_ _ | refine blk_drew ?_ | refine blk_alloc ?_ _)); exact BK440.out⟩, ⟨by repeat (first | (with_reducible first | exact HB.out | apply below_alloc | apply pw_below_drewN | apply below_drew1 | refine below_set ?_ GE409.out | refine below_set ?_ GE410.out | refine below_set ?_ GE422.out | refine below_set ?_ GE423.out | refine below_set ?_ GE431.out | refine below_set ?_ GE440.out) | exact HB.out)⟩⟩
         case rest =>
          as_aux_lemma =>
           clear HC128
           (try clear c13); (try clear c14); (try clear c15); (try clear c16); (try clear c17); (try clear c129); (try clear c134); (try clear c135); (try clear c136); (try clear c137); (try clear c138); (try clear c143); (try clear c144); (try clear c145); (try clear c146); (try clear c149); (try clear c150); (try clear c151); (try clear c151b0); (try clear c151b1); (try clear c152); (try clear c153); (try clear c154); (try clear c154b0); (try clear c156); (try clear c157); (try clear c157b0); (try clear c158); (try clear c159); (try clear c160); (try clear c161); (try clear c162); (try clear c165); (try clear c166); (try clear c167); (try clear c168); (try clear c169); (try clear c172); (try clear c173); (try clear c174); (try clear c175); (try clear c176); (try clear hcz139_0); (try clear hcz139_1); (try clear hcz139_2); (try clear hcz141_0); (try clear hcz141_1); (try clear hcz141_2); (try clear hcz147_0); (try clear hcz147_1); (try clear hcz147_2); (try clear hcz163_0); (try clear hcz163_1); (try clear hcz163_2); (try clear hcz170_0); (try clear hcz170_1); (try clear hcz170_2); (try clear hcz177_0); (try clear hcz177_1); (try clear hcz177_2); (try clear hfz139_0); (try clear hfz139_1); (try clear hfz139_2); (try clear hfz141_0); (try clear hfz141_1); (try clear hfz141_2); (try clear hfz147_0); (try clear hfz147_1); (try clear hfz147_2); (try clear hfz163_0); (try clear hfz163_1); (try clear hfz163_2); (try clear hfz170_0); (try clear hfz170_1); (try clear hfz170_2); (try clear hfz177_0); (try clear hfz177_1); (try clear hfz177_2)
           obtain ⟨kq, HA, HJ127, BK409, BK410, BK422, BK423, BK431, BK440, HB⟩ := hcut
           cases kq with
           | zero => exact absurd HA.out (by simp [laws_FnCores.j3])
           | succ kj127 =>
            have H := HA.out
            clear HA
            simp only [laws_FnCores.j3] at H
            have HC179 := Aside0.mk H
            clear H
            go_upto_if 277 with (fail)
            go_cut [] (fun wc => ∃ (kq : Nat), Aside0 (laws_FnCores.j4 kq t396 t397 t398 t400 t401 = some r) ∧ Aside0 (kq ≤ kj127) ∧ Aside0 (wc.heap[gb409]? = some (.cells #[.int .i64 t403, .int .i64 t404, .int .i64 t405] 64 (0, 0))) ∧ Aside0 (wc.heap[gb410]? = some (.cells #[.int .i64 t406, .int .i64 t407, .int .i64 t408] 64 (0, 0))) ∧ Aside0 (wc.heap[gb422]? = some (.cells #[.int .i64 t415, .int .i64 t416, .int .i64 t417] 64 (0, 0))) ∧ Aside0 (wc.heap[gb423]? = some (.cells #[.int .i64 t418, .int .i64 t419, .int .i64 t420] 64 (0, 0))) ∧ Aside0 (wc.heap[gb431]? = some (.cells #[.int .i64 t428, .int .i64 t429, .int .i64 t430] 64 (0, 0))) ∧ Aside0 (wc.heap[gb440]? = some (.cells #[.int .i64 t436, .int .i64 t437, .int .i64 t438] 64 (0, 0))) ∧ Aside0 (Below w.heap.size w wc))
            case first =>
             as_aux_lemma =>
              have H := HC179.out
              clear HC179
              by_cases c180 : t433 = true
              ·subst c180
               have H1 : ((impl_LengthWound.f t428 t429 t430 (wrap64 (8 * t430))).bind fun bt458 => (if bt458.2 = true then (if bt458.1 = (wrap64 (8 * t434)) then (laws_FnCores.j4 kj127 t396 t397 t398 t400 t401) else (some false)) else (some false))) = some r := by rw [if_pos rfl] at H; exact H
               clear H
               have H := H1
               clear H1
               replace H := Option.bind_eq_some_iff.mp H
               obtain ⟨⟨t458, t459⟩, A1810, H⟩ := H
               (try dsimp only at H)
               have A181 := Aside0.mk A1810
               clear A1810
               by_cases c182 : t459 = true
               ·subst c182
                have H1 : (if t458 = (wrap64 (8 * t434)) then (laws_FnCores.j4 kj127 t396 t397 t398 t400 t401) else (some false)) = some r := by rw [if_pos rfl] at H; exact H
                clear H
                have H := H1
                clear H1
                by_cases c183 : t458 = (wrap64 (8 * t434))
                ·rw [if_pos c183] at H
                 have c183b0 : (t458 == (wrap64 (8 * t434))) = true := beq_iff_eq.mpr c183
                 have c183b1 : (t458 != (wrap64 (8 * t434))) = false := bne_eq_false_iff_eq.mpr c183
                 clear c183
                 (first | rw [c183b0] | (simp only [i64_w, i32_w]; rw [c183b0]) | skip)
                 have H' := Aside0.mk H
                 clear H
                 have hnb184 := NB431_409.out
                 have hnc184 := NB409_431.out
                 have hnb185 := NB431_410.out
                 have hnc185 := NB410_431.out
                 have hnb186 := NB431_422.out
                 have hnc186 := NB422_431.out
                 have hnb187 := NB431_423.out
                 have hnc187 := NB423_431.out
                 have hnb188 := NB431_440.out
                 have hnc188 := NB440_431.out
                 have hcz189_0 : wc.cell? ⟨gb431, 0, none⟩ = some (.int .i64 t428) := (blk_cell BK431.out 0).trans rfl
                 have hcz189_1 : wc.cell? ⟨gb431, 1, none⟩ = some (.int .i64 t429) := (blk_cell BK431.out 1).trans rfl
                 have hcz189_2 : wc.cell? ⟨gb431, 2, none⟩ = some (.int .i64 t430) := (blk_cell BK431.out 2).trans rfl
                 have hfz189_0 := blk_frozen BK431.out 0
                 have hfz189_1 := blk_frozen BK431.out 1
                 have hfz189_2 := blk_frozen BK431.out 2
                 as_aux_lemma =>
                  go_wp2_with (first | ((with_reducible refine gate_callee (f := 60) rfl ?_); refine goesL_ (some 283) rfl rfl Try.func60 (by kernel_rfl) rfl #[.agg #[.int .i64 t428, .int .i64 t429, .int .i64 t430], .int .i64 (wrap64 (8 * t430))] rfl (by (try simp only [List.map_toArray, List.map_cons, List.map_nil]); first | done | rfl) ?_; (with_reducible refine (impl_LengthWound.calls t428 t429 t430 (wrap64 (8 * t430)) t458 true _ A181.out).mono ?_); rintro e w190 ⟨rfl, hb⟩; refine ⟨_, rfl, ?_⟩; have n0_ := Aside0.mk (blk_below (g := gb409) (o := .cells #[.int .i64 t403, .int .i64 t404, .int .i64 t405] 64 (0, 0)) BK409.out hb); have n1_ := Aside0.mk (blk_below (g := gb410) (o := .cells #[.int .i64 t406, .int .i64 t407, .int .i64 t408] 64 (0, 0)) BK410.out hb); have n2_ := Aside0.mk (blk_below (g := gb422) (o := .cells #[.int .i64 t415, .int .i64 t416, .int .i64 t417] 64 (0, 0)) BK422.out hb); have n3_ := Aside0.mk (blk_below (g := gb423) (o := .cells #[.int .i64 t418, .int .i64 t419, .int .i64 t420] 64 (0, 0)) BK423.out hb); have n4_ := Aside0.mk (blk_below (g := gb431) (o := .cells #[.int .i64 t428, .int .i64 t429, .int .i64 t430] 64 (0, 0)) BK431.out hb); have n5_ := Aside0.mk (blk_below (g := gb440) (o := .cells #[.int .i64 t436, .int .i64 t437, .int .i64 t438] 64 (0, 0)) BK440.out hb); have n6_ := Aside0.mk (below_step HB.out hb); clear BK409; clear BK410; clear BK422; clear BK423; clear BK431; clear BK440; clear HB; have BK409 := n0_; have BK410 := n1_; have BK422 := n2_; have BK423 := n3_; have BK431 := n4_; have BK440 := n5_; have HB := n6_; clear n0_ n1_ n2_ n3_ n4_ n5_ n6_; (try clear hb); (try clear hb2); (try clear hk); (try clear hi)))
                  go_meet
                  case rel => exact ⟨_, H', ⟨by have := HJ18.out; have := HJ86.out; have := HJ127.out; first | omega | exact Nat.le_refl _⟩, ⟨by (with_reducible repeat (first | refine blk_drewN ?_ _ | refine blk_drew ?_ | refine blk_alloc ?_ _)); exact BK409.out⟩, ⟨by (with_reducible repeat (first | refine blk_drewN ?_ _ | refine blk_drew ?_ | refine blk_alloc ?_ _)); exact BK410.out⟩, ⟨by (with_reducible repeat (first | refine blk_drewN ?_ _ | refine blk_drew ?_ | refine blk_alloc ?_ _)); exact BK422.out⟩, ⟨by (with_reducible repeat (first | refine blk_drewN ?_ _ | refine blk_drew ?_ | refine blk_alloc ?_ _)); exact BK423.out⟩, ⟨by (with_reducible repeat (first | refine blk_drewN ?_ _ | refine blk_drew ?_ | refine blk_alloc ?_ _)); exact BK431.out⟩, ⟨by (with_reducible repeat (first | refine blk_drewN ?_ _ | refine blk_drew ?_ | refine blk_alloc ?_ _)); exact BK440.out⟩, ⟨by repeat (first | (with_reducible first | exact HB.out | apply below_alloc | apply pw_below_drewN | apply below_drew1 | refine below_set ?_ GE409.out | refine below_set ?_ GE410.out | refine below_set ?_ GE422.out | refine below_set ?_ GE423.out | refine below_set ?_ GE431.out | refine below_set ?_ GE440.out) | exact HB.out)⟩⟩
                ·rw [if_neg c183] at H
                 have c183b0 : (t458 == (wrap64 (8 * t434))) = false := beq_eq_false_iff_ne.mpr c183
                 have c183b1 : (t458 != (wrap64 (8 * t434))) = true := bne_iff_ne.mpr c183
                 (first | rw [c183b0] | (simp only [i64_w, i32_w]; rw [c183b0]) | skip)
                 obtain rfl := Option.some.inj H
                 have hnb191 := NB431_409.out
                 have hnc191 := NB409_431.out
                 have hnb192 := NB431_410.out
                 have hnc192 := NB410_431.out
                 have hnb193 := NB431_422.out
                 have hnc193 := NB422_431.out
                 have hnb194 := NB431_423.out
                 have hnc194 := NB423_431.out
                 have hnb195 := NB431_440.out
                 have hnc195 := NB440_431.out
                 have hcz196_0 : wc.cell? ⟨gb431, 0, none⟩ = some (.int .i64 t428) := (blk_cell BK431.out 0).trans rfl
                 have hcz196_1 : wc.cell? ⟨gb431, 1, none⟩ = some (.int .i64 t429) := (blk_cell BK431.out 1).trans rfl
                 have hcz196_2 : wc.cell? ⟨gb431, 2, none⟩ = some (.int .i64 t430) := (blk_cell BK431.out 2).trans rfl
                 have hfz196_0 := blk_frozen BK431.out 0
                 have hfz196_1 := blk_frozen BK431.out 1
                 have hfz196_2 := blk_frozen BK431.out 2
                 as_aux_lemma =>
                  go_wp2_with (first | ((with_reducible refine gate_callee (f := 60) rfl ?_); refine goesL_ (some 283) rfl rfl Try.func60 (by kernel_rfl) rfl #[.agg #[.int .i64 t428, .int .i64 t429, .int .i64 t430], .int .i64 (wrap64 (8 * t430))] rfl (by (try simp only [List.map_toArray, List.map_cons, List.map_nil]); first | done | rfl) ?_; (with_reducible refine (impl_LengthWound.calls t428 t429 t430 (wrap64 (8 * t430)) t458 true _ A181.out).mono ?_); rintro e w197 ⟨rfl, hb⟩; refine ⟨_, rfl, ?_⟩; have n0_ := Aside0.mk (blk_below (g := gb409) (o := .cells #[.int .i64 t403, .int .i64 t404, .int .i64 t405] 64 (0, 0)) BK409.out hb); have n1_ := Aside0.mk (blk_below (g := gb410) (o := .cells #[.int .i64 t406, .int .i64 t407, .int .i64 t408] 64 (0, 0)) BK410.out hb); have n2_ := Aside0.mk (blk_below (g := gb422) (o := .cells #[.int .i64 t415, .int .i64 t416, .int .i64 t417] 64 (0, 0)) BK422.out hb); have n3_ := Aside0.mk (blk_below (g := gb423) (o := .cells #[.int .i64 t418, .int .i64 t419, .int .i64 t420] 64 (0, 0)) BK423.out hb); have n4_ := Aside0.mk (blk_below (g := gb431) (o := .cells #[.int .i64 t428, .int .i64 t429, .int .i64 t430] 64 (0, 0)) BK431.out hb); have n5_ := Aside0.mk (blk_below (g := gb440) (o := .cells #[.int .i64 t436, .int .i64 t437, .int .i64 t438] 64 (0, 0)) BK440.out hb); have n6_ := Aside0.mk (below_step HB.out hb); clear BK409; clear BK410; clear BK422; clear BK423; clear BK431; clear BK440; clear HB; have BK409 := n0_; have BK410 := n1_; have BK422 := n2_; have BK423 := n3_; have BK431 := n4_; have BK440 := n5_; have HB := n6_; clear n0_ n1_ n2_ n3_ n4_ n5_ n6_; (try clear hb); (try clear hb2); (try clear hk); (try clear hi)))
                  go_ret
                  exact ⟨by first | rfl | (simp [errW_none, errW_some] <;> rfl) | (simp [*, errW_none, errW_some] <;> rfl), by repeat (first | (with_reducible first | exact HB.out | apply below_alloc | apply pw_below_drewN | apply below_drew1 | refine below_set ?_ GE409.out | refine below_set ?_ GE410.out | refine below_set ?_ GE422.out | refine below_set ?_ GE423.out | refine below_set ?_ GE431.out | refine below_set ?_ GE440.out) | exact HB.out)⟩
               ·replace c182 := Bool.eq_false_iff.mpr c182
                subst c182
                have H1 : (some false) = some r := by rw [if_neg (show ¬ (false = true) by decide)] at H; exact H
                clear H
                have H := H1
                clear H1
                obtain rfl := Option.some.inj H
                have hnb198 := NB431_409.out
                have hnc198 := NB409_431.out
                have hnb199 := NB431_410.out
                have hnc199 := NB410_431.out
                have hnb200 := NB431_422.out
                have hnc200 := NB422_431.out
                have hnb201 := NB431_423.out
                have hnc201 := NB423_431.out
                have hnb202 := NB431_440.out
                have hnc202 := NB440_431.out
                have hcz203_0 : wc.cell? ⟨gb431, 0, none⟩ = some (.int .i64 t428) := (blk_cell BK431.out 0).trans rfl
                have hcz203_1 : wc.cell? ⟨gb431, 1, none⟩ = some (.int .i64 t429) := (blk_cell BK431.out 1).trans rfl
                have hcz203_2 : wc.cell? ⟨gb431, 2, none⟩ = some (.int .i64 t430) := (blk_cell BK431.out 2).trans rfl
                have hfz203_0 := blk_frozen BK431.out 0
                have hfz203_1 := blk_frozen BK431.out 1
                have hfz203_2 := blk_frozen BK431.out 2
                as_aux_lemma =>
                 go_wp2_with (first | ((with_reducible refine gate_callee (f := 60) rfl ?_); refine goesL_ (some 283) rfl rfl Try.func60 (by kernel_rfl) rfl #[.agg #[.int .i64 t428, .int .i64 t429, .int .i64 t430], .int .i64 (wrap64 (8 * t430))] rfl (by (try simp only [List.map_toArray, List.map_cons, List.map_nil]); first | done | rfl) ?_; (with_reducible refine (impl_LengthWound.calls t428 t429 t430 (wrap64 (8 * t430)) t458 false _ A181.out).mono ?_); rintro e w204 ⟨rfl, hb⟩; refine ⟨_, rfl, ?_⟩; have n0_ := Aside0.mk (blk_below (g := gb409) (o := .cells #[.int .i64 t403, .int .i64 t404, .int .i64 t405] 64 (0, 0)) BK409.out hb); have n1_ := Aside0.mk (blk_below (g := gb410) (o := .cells #[.int .i64 t406, .int .i64 t407, .int .i64 t408] 64 (0, 0)) BK410.out hb); have n2_ := Aside0.mk (blk_below (g := gb422) (o := .cells #[.int .i64 t415, .int .i64 t416, .int .i64 t417] 64 (0, 0)) BK422.out hb); have n3_ := Aside0.mk (blk_below (g := gb423) (o := .cells #[.int .i64 t418, .int .i64 t419, .int .i64 t420] 64 (0, 0)) BK423.out hb); have n4_ := Aside0.mk (blk_below (g := gb431) (o := .cells #[.int .i64 t428, .int .i64 t429, .int .i64 t430] 64 (0, 0)) BK431.out hb); have n5_ := Aside0.mk (blk_below (g := gb440) (o := .cells #[.int .i64 t436, .int .i64 t437, .int .i64 t438] 64 (0, 0)) BK440.out hb); have n6_ := Aside0.mk (below_step HB.out hb); clear BK409; clear BK410; clear BK422; clear BK423; clear BK431; clear BK440; clear HB; have BK409 := n0_; have BK410 := n1_; have BK422 := n2_; have BK423 := n3_; have BK431 := n4_; have BK440 := n5_; have HB := n6_; clear n0_ n1_ n2_ n3_ n4_ n5_ n6_; (try clear hb); (try clear hb2); (try clear hk); (try clear hi)))
                 go_ret
                 exact ⟨by first | rfl | (simp [errW_none, errW_some] <;> rfl) | (simp [*, errW_none, errW_some] <;> rfl), by repeat (first | (with_reducible first | exact HB.out | apply below_alloc | apply pw_below_drewN | apply below_drew1 | refine below_set ?_ GE409.out | refine below_set ?_ GE410.out | refine below_set ?_ GE422.out | refine below_set ?_ GE423.out | refine below_set ?_ GE431.out | refine below_set ?_ GE440.out) | exact HB.out)⟩
              ·replace c180 := Bool.eq_false_iff.mpr c180
               subst c180
               have H1 : (laws_FnCores.j4 kj127 t396 t397 t398 t400 t401) = some r := by rw [if_neg (show ¬ (false = true) by decide)] at H; exact H
               clear H
               have H := H1
               clear H1
               have H' := Aside0.mk H
               clear H
               as_aux_lemma =>
                go_wp2
                go_meet
                case rel => exact ⟨_, H', ⟨by have := HJ18.out; have := HJ86.out; have := HJ127.out; first | omega | exact Nat.le_refl _⟩, ⟨by (with_reducible repeat (first | refine blk_drewN ?_ _ | refine blk_drew ?_ | refine blk_alloc ?_ _)); exact BK409.out⟩, ⟨by (with_reducible repeat (first | refine blk_drewN ?_ _ | refine blk_drew ?_ | refine blk_alloc ?_ _)); exact BK410.out⟩, ⟨by (with_reducible repeat (first | refine blk_drewN ?_ _ | refine blk_drew ?_ | refine blk_alloc ?_ _)); exact BK422.out⟩, ⟨by (with_reducible repeat (first | refine blk_drewN ?_ _ | refine blk_drew ?_ | refine blk_alloc ?_ _)); exact BK423.out⟩, ⟨by (with_reducible repeat (first | refine blk_drewN ?_ _ | refine blk_drew ?_ | refine blk_alloc ?_ _)); exact BK431.out⟩, ⟨by (with_reducible repeat (first | refine blk_drewN ?_ _ | refine blk_drew ?_ | refine blk_alloc ?_ _)); exact BK440.out⟩, ⟨by repeat (first | (with_reducible first | exact HB.out | apply below_alloc | apply pw_below_drewN | apply below_drew1 | refine below_set ?_ GE409.out | refine below_set ?_ GE410.out | refine below_set ?_ GE422.out | refine below_set ?_ GE423.out | refine below_set ?_ GE431.out | refine below_set ?_ GE440.out) | exact HB.out)⟩⟩
            case rest =>
             as_aux_lemma =>
              clear HC179
              (try clear c18); (try clear c19); (try clear c20); (try clear c180); (try clear c182); (try clear c183); (try clear c183b0); (try clear c183b1); (try clear c184); (try clear c185); (try clear c186); (try clear c187); (try clear c188); (try clear c191); (try clear c192); (try clear c193); (try clear c194); (try clear c195); (try clear c198); (try clear c199); (try clear c200); (try clear c201); (try clear c202); (try clear hcz189_0); (try clear hcz189_1); (try clear hcz189_2); (try clear hcz196_0); (try clear hcz196_1); (try clear hcz196_2); (try clear hcz203_0); (try clear hcz203_1); (try clear hcz203_2); (try clear hfz189_0); (try clear hfz189_1); (try clear hfz189_2); (try clear hfz196_0); (try clear hfz196_1); (try clear hfz196_2); (try clear hfz203_0); (try clear hfz203_1); (try clear hfz203_2)
              obtain ⟨kq, HA, HJ178, BK409, BK410, BK422, BK423, BK431, BK440, HB⟩ := hcut
              cases kq with
              | zero => exact absurd HA.out (by simp [laws_FnCores.j4])
              | succ kj178 =>
               have H := HA.out
               clear HA
               simp only [laws_FnCores.j4] at H
               by_cases c205 : t400 = true
               ·subst c205
                have H1 : ((impl_LengthOf.f t401 t396 t397).bind fun bt460 => (if bt460.2 = true then (laws_FnCores.j5 kj178 t396 t397 t398 t401 (decide (bt460.1 < t398))) else (laws_FnCores.j5 kj178 t396 t397 t398 t401 true))) = some r := by rw [if_pos rfl] at H; exact H
                clear H
                have H := H1
                clear H1
                replace H := Option.bind_eq_some_iff.mp H
                obtain ⟨⟨t460, t461⟩, A2060, H⟩ := H
                (try dsimp only at H)
                have A206 := Aside0.mk A2060
                clear A2060
                have HC207 := Aside0.mk H
                clear H
                go_upto_region 41 with (first | ((with_reducible refine gate_callee (f := 63) rfl ?_); refine goesL_ (some 301) rfl rfl Try.func63 (by kernel_rfl) rfl #[.agg #[.int .i64 t401, .int .i64 t396, .int .i64 t397]] rfl (by (try simp only [List.map_toArray, List.map_cons, List.map_nil]); first | done | rfl) ?_; (with_reducible refine (impl_LengthOf.calls t401 t396 t397 t460 t461 _ A206.out).mono ?_); rintro e w208 ⟨rfl, hb⟩; refine ⟨_, rfl, ?_⟩; have n0_ := Aside0.mk (blk_below (g := gb409) (o := .cells #[.int .i64 t403, .int .i64 t404, .int .i64 t405] 64 (0, 0)) BK409.out hb); have n1_ := Aside0.mk (blk_below (g := gb410) (o := .cells #[.int .i64 t406, .int .i64 t407, .int .i64 t408] 64 (0, 0)) BK410.out hb); have n2_ := Aside0.mk (blk_below (g := gb422) (o := .cells #[.int .i64 t415, .int .i64 t416, .int .i64 t417] 64 (0, 0)) BK422.out hb); have n3_ := Aside0.mk (blk_below (g := gb423) (o := .cells #[.int .i64 t418, .int .i64 t419, .int .i64 t420] 64 (0, 0)) BK423.out hb); have n4_ := Aside0.mk (blk_below (g := gb431) (o := .cells #[.int .i64 t428, .int .i64 t429, .int .i64 t430] 64 (0, 0)) BK431.out hb); have n5_ := Aside0.mk (blk_below (g := gb440) (o := .cells #[.int .i64 t436, .int .i64 t437, .int .i64 t438] 64 (0, 0)) BK440.out hb); have n6_ := Aside0.mk (below_step HB.out hb); clear BK409; clear BK410; clear BK422; clear BK423; clear BK431; clear BK440; clear HB; have BK409 := n0_; have BK410 := n1_; have BK422 := n2_; have BK423 := n3_; have BK431 := n4_; have BK440 := n5_; have HB := n6_; clear n0_ n1_ n2_ n3_ n4_ n5_ n6_; (try clear hb); (try clear hb2); (try clear hk); (try clear hi)))
                (try simp only [Act.put, List.setIfInBounds_toArray, List.set_cons_zero, List.set_cons_succ])
                go_cut [310] (fun v310 wc => ∃ (kq : Nat) (x310_206 : Bool), v310 = .bool x310_206 ∧ Aside0 (laws_FnCores.j5 kq t396 t397 t398 t401 x310_206 = some r) ∧ Aside0 (kq ≤ kj178) ∧ Aside0 (wc.heap[gb409]? = some (.cells #[.int .i64 t403, .int .i64 t404, .int .i64 t405] 64 (0, 0))) ∧ Aside0 (wc.heap[gb410]? = some (.cells #[.int .i64 t406, .int .i64 t407, .int .i64 t408] 64 (0, 0))) ∧ Aside0 (wc.heap[gb422]? = some (.cells #[.int .i64 t415, .int .i64 t416, .int .i64 t417] 64 (0, 0))) ∧ Aside0 (wc.heap[gb423]? = some (.cells #[.int .i64 t418, .int .i64 t419, .int .i64 t420] 64 (0, 0))) ∧ Aside0 (wc.heap[gb431]? = some (.cells #[.int .i64 t428, .int .i64 t429, .int .i64 t430] 64 (0, 0))) ∧ Aside0 (wc.heap[gb440]? = some (.cells #[.int .i64 t436, .int .i64 t437, .int .i64 t438] 64 (0, 0))) ∧ Aside0 (Below w.heap.size w wc))
                case first =>
                 as_aux_lemma =>
                  have H := HC207.out
                  clear HC207
                  by_cases c209 : t461 = true
                  ·subst c209
                   have H1 : (laws_FnCores.j5 kj178 t396 t397 t398 t401 (decide (t460 < t398))) = some r := by rw [if_pos rfl] at H; exact H
                   clear H
                   have H := H1
                   clear H1
                   have H' := Aside0.mk H
                   clear H
                   as_aux_lemma =>
                    go_wp2
                    go_meet
                    case rel => exact ⟨_, (decide (t460 < t398)), (by first | rfl | (simp; done) | (simp [*]; done)), H', ⟨by have := HJ18.out; have := HJ86.out; have := HJ127.out; have := HJ178.out; first | omega | exact Nat.le_refl _⟩, ⟨by (with_reducible repeat (first | refine blk_drewN ?_ _ | refine blk_drew ?_ | refine blk_alloc ?_ _)); exact BK409.out⟩, ⟨by (with_reducible repeat (first | refine blk_drewN ?_ _ | refine blk_drew ?_ | refine blk_alloc ?_ _)); exact BK410.out⟩, ⟨by (with_reducible repeat (first | refine blk_drewN ?_ _ | refine blk_drew ?_ | refine blk_alloc ?_ _)); exact BK422.out⟩, ⟨by (with_reducible repeat (first | refine blk_drewN ?_ _ | refine blk_drew ?_ | refine blk_alloc ?_ _)); exact BK423.out⟩, ⟨by (with_reducible repeat (first | refine blk_drewN ?_ _ | refine blk_drew ?_ | refine blk_alloc ?_ _)); exact BK431.out⟩, ⟨by (with_reducible repeat (first | refine blk_drewN ?_ _ | refine blk_drew ?_ | refine blk_alloc ?_ _)); exact BK440.out⟩, ⟨by repeat (first | (with_reducible first | exact HB.out | apply below_alloc | apply pw_below_drewN | apply below_drew1 | refine below_set ?_ GE409.out | refine below_set ?_ GE410.out | refine below_set ?_ GE422.out | refine below_set ?_ GE423.out | refine below_set ?_ GE431.out | refine below_set ?_ GE440.out) | exact HB.out)⟩⟩
                  ·replace c209 := Bool.eq_false_iff.mpr c209
                   subst c209
                   have H1 : (laws_FnCores.j5 kj178 t396 t397 t398 t401 true) = some r := by rw [if_neg (show ¬ (false = true) by decide)] at H; exact H
                   clear H
                   have H := H1
                   clear H1
                   have H' := Aside0.mk H
                   clear H
                   as_aux_lemma =>
                    go_wp2
                    go_meet
                    case rel => exact ⟨_, (true), (by first | rfl | (simp; done) | (simp [*]; done)), H', ⟨by have := HJ18.out; have := HJ86.out; have := HJ127.out; have := HJ178.out; first | omega | exact Nat.le_refl _⟩, ⟨by (with_reducible repeat (first | refine blk_drewN ?_ _ | refine blk_drew ?_ | refine blk_alloc ?_ _)); exact BK409.out⟩, ⟨by (with_reducible repeat (first | refine blk_drewN ?_ _ | refine blk_drew ?_ | refine blk_alloc ?_ _)); exact BK410.out⟩, ⟨by (with_reducible repeat (first | refine blk_drewN ?_ _ | refine blk_drew ?_ | refine blk_alloc ?_ _)); exact BK422.out⟩, ⟨by (with_reducible repeat (first | refine blk_drewN ?_ _ | refine blk_drew ?_ | refine blk_alloc ?_ _)); exact BK423.out⟩, ⟨by (with_reducible repeat (first | refine blk_drewN ?_ _ | refine blk_drew ?_ | refine blk_alloc ?_ _)); exact BK431.out⟩, ⟨by (with_reducible repeat (first | refine blk_drewN ?_ _ | refine blk_drew ?_ | refine blk_alloc ?_ _)); exact BK440.out⟩, ⟨by repeat (first | (with_reducible first | exact HB.out | apply below_alloc | apply pw_below_drewN | apply below_drew1 | refine below_set ?_ GE409.out | refine below_set ?_ GE410.out | refine below_set ?_ GE422.out | refine below_set ?_ GE423.out | refine below_set ?_ GE431.out | refine below_set ?_ GE440.out) | exact HB.out)⟩⟩
                case rest =>
                 as_aux_lemma =>
                  clear HC207
                  (try clear c205); (try clear c209)
                  obtain ⟨kq, x310_206, rfl, HA, HJ206, BK409, BK410, BK422, BK423, BK431, BK440, HB⟩ := hcut
                  cases kq with
                  | zero => exact absurd HA.out (by simp [laws_FnCores.j5])
                  | succ kj206 =>
                   have H := HA.out
                   clear HA
                   simp only [laws_FnCores.j5] at H
                   by_cases c210 : x310_206 = true
                   ·subst c210
                    have H1 : (some false) = some r := by rw [if_pos rfl] at H; exact H
                    clear H
                    have H := H1
                    clear H1
                    obtain rfl := Option.some.inj H
                    as_aux_lemma =>
                     go_wp2
                     go_ret
                     exact ⟨by first | rfl | (simp [errW_none, errW_some] <;> rfl) | (simp [*, errW_none, errW_some] <;> rfl), by repeat (first | (with_reducible first | exact HB.out | apply below_alloc | apply pw_below_drewN | apply below_drew1 | refine below_set ?_ GE409.out | refine below_set ?_ GE410.out | refine below_set ?_ GE422.out | refine below_set ?_ GE423.out | refine below_set ?_ GE431.out | refine below_set ?_ GE440.out) | exact HB.out)⟩
                   ·replace c210 := Bool.eq_false_iff.mpr c210
                    subst c210
                    have H1 : (if t401 > 100 then ((impl_LengthOf.f (wrap64 (t401 - 1)) t396 t397).bind fun bt462 => (if bt462.2 = true then (some (decide (bt462.1 < t398))) else (some false))) else (some true)) = some r := by rw [if_neg (show ¬ (false = true) by decide)] at H; exact H
                    clear H
                    have H := H1
                    clear H1
                    by_cases c211 : t401 > 100
                    ·rw [if_pos c211] at H
                     have c211b0 : decide (100 < t401) = true := decide_eq_true c211
                     clear c211
                     replace H := Option.bind_eq_some_iff.mp H
                     obtain ⟨⟨t462, t463⟩, A2120, H⟩ := H
                     (try dsimp only at H)
                     have A212 := Aside0.mk A2120
                     clear A2120
                     by_cases c213 : t463 = true
                     ·subst c213
                      have H1 : (some (decide (t462 < t398))) = some r := by rw [if_pos rfl] at H; exact H
                      clear H
                      have H := H1
                      clear H1
                      obtain rfl := Option.some.inj H
                      as_aux_lemma =>
                       go_wp2_with (first | ((with_reducible refine gate_callee (f := 63) rfl ?_); refine goesL_ (some 319) rfl rfl Try.func63 (by kernel_rfl) rfl #[.agg #[.int .i64 (wrap64 (t401 - 1)), .int .i64 t396, .int .i64 t397]] rfl (by (try simp only [List.map_toArray, List.map_cons, List.map_nil]); first | done | rfl) ?_; (with_reducible refine (impl_LengthOf.calls (wrap64 (t401 - 1)) t396 t397 t462 true _ A212.out).mono ?_); rintro e w214 ⟨rfl, hb⟩; refine ⟨_, rfl, ?_⟩; have n0_ := Aside0.mk (blk_below (g := gb409) (o := .cells #[.int .i64 t403, .int .i64 t404, .int .i64 t405] 64 (0, 0)) BK409.out hb); have n1_ := Aside0.mk (blk_below (g := gb410) (o := .cells #[.int .i64 t406, .int .i64 t407, .int .i64 t408] 64 (0, 0)) BK410.out hb); have n2_ := Aside0.mk (blk_below (g := gb422) (o := .cells #[.int .i64 t415, .int .i64 t416, .int .i64 t417] 64 (0, 0)) BK422.out hb); have n3_ := Aside0.mk (blk_below (g := gb423) (o := .cells #[.int .i64 t418, .int .i64 t419, .int .i64 t420] 64 (0, 0)) BK423.out hb); have n4_ := Aside0.mk (blk_below (g := gb431) (o := .cells #[.int .i64 t428, .int .i64 t429, .int .i64 t430] 64 (0, 0)) BK431.out hb); have n5_ := Aside0.mk (blk_below (g := gb440) (o := .cells #[.int .i64 t436, .int .i64 t437, .int .i64 t438] 64 (0, 0)) BK440.out hb); have n6_ := Aside0.mk (below_step HB.out hb); clear BK409; clear BK410; clear BK422; clear BK423; clear BK431; clear BK440; clear HB; have BK409 := n0_; have BK410 := n1_; have BK422 := n2_; have BK423 := n3_; have BK431 := n4_; have BK440 := n5_; have HB := n6_; clear n0_ n1_ n2_ n3_ n4_ n5_ n6_; (try clear hb); (try clear hb2); (try clear hk); (try clear hi)))
                       go_ret
                       exact ⟨by first | rfl | (simp [errW_none, errW_some] <;> rfl) | (simp [*, errW_none, errW_some] <;> rfl), by repeat (first | (with_reducible first | exact HB.out | apply below_alloc | apply pw_below_drewN | apply below_drew1 | refine below_set ?_ GE409.out | refine below_set ?_ GE410.out | refine below_set ?_ GE422.out | refine below_set ?_ GE423.out | refine below_set ?_ GE431.out | refine below_set ?_ GE440.out) | exact HB.out)⟩
                     ·replace c213 := Bool.eq_false_iff.mpr c213
                      subst c213
                      have H1 : (some false) = some r := by rw [if_neg (show ¬ (false = true) by decide)] at H; exact H
                      clear H
                      have H := H1
                      clear H1
                      obtain rfl := Option.some.inj H
                      as_aux_lemma =>
                       go_wp2_with (first | ((with_reducible refine gate_callee (f := 63) rfl ?_); refine goesL_ (some 319) rfl rfl Try.func63 (by kernel_rfl) rfl #[.agg #[.int .i64 (wrap64 (t401 - 1)), .int .i64 t396, .int .i64 t397]] rfl (by (try simp only [List.map_toArray, List.map_cons, List.map_nil]); first | done | rfl) ?_; (with_reducible refine (impl_LengthOf.calls (wrap64 (t401 - 1)) t396 t397 t462 false _ A212.out).mono ?_); rintro e w215 ⟨rfl, hb⟩; refine ⟨_, rfl, ?_⟩; have n0_ := Aside0.mk (blk_below (g := gb409) (o := .cells #[.int .i64 t403, .int .i64 t404, .int .i64 t405] 64 (0, 0)) BK409.out hb); have n1_ := Aside0.mk (blk_below (g := gb410) (o := .cells #[.int .i64 t406, .int .i64 t407, .int .i64 t408] 64 (0, 0)) BK410.out hb); have n2_ := Aside0.mk (blk_below (g := gb422) (o := .cells #[.int .i64 t415, .int .i64 t416, .int .i64 t417] 64 (0, 0)) BK422.out hb); have n3_ := Aside0.mk (blk_below (g := gb423) (o := .cells #[.int .i64 t418, .int .i64 t419, .int .i64 t420] 64 (0, 0)) BK423.out hb); have n4_ := Aside0.mk (blk_below (g := gb431) (o := .cells #[.int .i64 t428, .int .i64 t429, .int .i64 t430] 64 (0, 0)) BK431.out hb); have n5_ := Aside0.mk (blk_below (g := gb440) (o := .cells #[.int .i64 t436, .int .i64 t437, .int .i64 t438] 64 (0, 0)) BK440.out hb); have n6_ := Aside0.mk (below_step HB.out hb); clear BK409; clear BK410; clear BK422; clear BK423; clear BK431; clear BK440; clear HB; have BK409 := n0_; have BK410 := n1_; have BK422 := n2_; have BK423 := n3_; have BK431 := n4_; have BK440 := n5_; have HB := n6_; clear n0_ n1_ n2_ n3_ n4_ n5_ n6_; (try clear hb); (try clear hb2); (try clear hk); (try clear hi)))
                       go_ret
                       exact ⟨by first | rfl | (simp [errW_none, errW_some] <;> rfl) | (simp [*, errW_none, errW_some] <;> rfl), by repeat (first | (with_reducible first | exact HB.out | apply below_alloc | apply pw_below_drewN | apply below_drew1 | refine below_set ?_ GE409.out | refine below_set ?_ GE410.out | refine below_set ?_ GE422.out | refine below_set ?_ GE423.out | refine below_set ?_ GE431.out | refine below_set ?_ GE440.out) | exact HB.out)⟩
                    ·rw [if_neg c211] at H
                     have c211b0 : decide (100 < t401) = false := decide_eq_false c211
                     clear c211
                     obtain rfl := Option.some.inj H
                     as_aux_lemma =>
                      go_wp2
                      go_ret
                      exact ⟨by first | rfl | (simp [errW_none, errW_some] <;> rfl) | (simp [*, errW_none, errW_some] <;> rfl), by repeat (first | (with_reducible first | exact HB.out | apply below_alloc | apply pw_below_drewN | apply below_drew1 | refine below_set ?_ GE409.out | refine below_set ?_ GE410.out | refine below_set ?_ GE422.out | refine below_set ?_ GE423.out | refine below_set ?_ GE431.out | refine below_set ?_ GE440.out) | exact HB.out)⟩
               ·replace c205 := Bool.eq_false_iff.mpr c205
                subst c205
                have H1 : (some true) = some r := by rw [if_neg (show ¬ (false = true) by decide)] at H; exact H
                clear H
                have H := H1
                clear H1
                obtain rfl := Option.some.inj H
                as_aux_lemma =>
                 go_wp2
                 go_ret
                 exact ⟨by first | rfl | (simp [errW_none, errW_some] <;> rfl) | (simp [*, errW_none, errW_some] <;> rfl), by repeat (first | (with_reducible first | exact HB.out | apply below_alloc | apply pw_below_drewN | apply below_drew1 | refine below_set ?_ GE409.out | refine below_set ?_ GE410.out | refine below_set ?_ GE422.out | refine below_set ?_ GE423.out | refine below_set ?_ GE431.out | refine below_set ?_ GE440.out) | exact HB.out)⟩

/-- THE ONE PURE STATEMENT of laws_FnCores: yours. -/
def laws_FnCores.Pure : Prop := ∀ (l0 : List Int) (l1 : List Int), l0.length ≤ maxLen → l0.length * 1 ≤ 140737488351232 → (∀ x ∈ l0, (Lit.int .u8 x).wf = true) → l1.length ≤ maxLen → l1.length * 1 ≤ 140737488351232 → (∀ x ∈ l1, (Lit.int .u8 x).wf = true) → ∃ k, laws_FnCores.f k l0 l1 = some true
theorem laws_FnCores.walk (P : laws_FnCores.Pure) (a0 : Option Addr) (len0 cap0 : Nat) (z0 : List Int) (a1 : Option Addr) (len1 cap1 : Nat) (z1 : List Int) (w : World) (w0 : (a0 = none ∧ len0 = 0 ∧ cap0 = 0 ∧ z0 = []) ∨ ∃ x, a0 = some x ∧ len0 ≤ cap0 ∧ cap0 ≤ maxLen ∧ z0.length = cap0 ∧ (∀ i, i < z0.length → w.cell? (x.add i) = some (.int .u8 (z0.getD i 0))) ∧ ∀ n ∈ z0, (Lit.int .u8 n).wf = true) (y0 : len0 * 1 ≤ 140737488351232) (w1 : (a1 = none ∧ len1 = 0 ∧ cap1 = 0 ∧ z1 = []) ∨ ∃ x, a1 = some x ∧ len1 ≤ cap1 ∧ cap1 ≤ maxLen ∧ z1.length = cap1 ∧ (∀ i, i < z1.length → w.cell? (x.add i) = some (.int .u8 (z1.getD i 0))) ∧ ∀ n ∈ z1, (Lit.int .u8 n).wf = true) (y1 : len1 * 1 ≤ 140737488351232) :
  Calls Try.prog 11 #[.slice a0 len0 cap0, .slice a1 len1 cap1] w fun e w' => e = .returned (.bool true) ∧ Below w.heap.size w w' := by
 obtain ⟨l0, rfl, hr0, hm0, hw0, hc0⟩ := ReadsInt.ofRowC w0
 obtain ⟨l1, rfl, hr1, hm1, hw1, hc1⟩ := ReadsInt.ofRowC w1
 obtain ⟨k, h⟩ := P l0 l1 hm0 y0 hw0 hm1 y1 hw1
 refine (laws_FnCores.calls k _ _ l0 _ _ l1 true w (Kd.C_of_reads (d := (0 : Int)) (h1 := fun _ => rfl) hr0) hc0 (Kd.C_of_reads (d := (0 : Int)) (h1 := fun _ => rfl) hr1) hc1 h).mono ?_
 rintro e w' ⟨rfl, hd⟩
 exact ⟨rfl, hd⟩

end Go.Proofs.Ytjogodnkcjhdiaa.PFnCores
