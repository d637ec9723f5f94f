-- written by a program of this session: the kit's print, with outer functions of the session's own (wip/ext)
import Derived.Test.YtcpbncljimmkfaaGreatDoorPFnScansx0
import Derived.Test.YtcpbncljimmkfaaGreatDoorPFnScansx9
namespace Go.Proofs.YtcpbncljimmkfaaGreatDoor.PFnScans
open Go.RowKit Go.Proofs.YtcpbncljimmkfaaGreatDoorW.PrintWords Go.Proofs.YtcpbncljimmkfaaGreatDoorW.PrintLast Go.Proofs.YtcpbncljimmkfaaGreatDoorW.PrintMore
attribute [local go_sem] max2_int min2_int max_two min_two max_three min_three max_four min_four   -- for this text's walks alone
set_option linter.unusedVariables false
set_option linter.unusedSimpArgs false
theorem mo10_ {p : Prop} (h : p := by repeat' first | (with_reducible first | apply ih0 | apply ih0 | apply ih1 | apply ih1 | apply ih2 | apply ih2 | apply impl_IsScan.mono | apply impl_IsScan.mono | apply impl_countChar.mono | apply impl_countChar.mono | apply impl_isGridOf.mono | apply impl_isGridOf.mono | exact LeO.refl _ | exact LeO.none _ | refine LeO.ite ?_ ?_ | refine LeO.bind ?_ (fun _ => ?_)) | exact LeO.none _ | refine LeO.ite ?_ ?_ | refine LeO.bind ?_ (fun _ => ?_)) : p := h

/-! ### impl_isGridOf: function 36 -/
mutual
def impl_isGridOf.j0 : Nat → List ByteArray → ByteArray → Bool → Option (Bool)
 | 0, _, _, _ => none
 | k + 1, x0, x4, x39 => if x39 = true then (some false) else (impl_isGridOf.l0 k x0 x4 x0 (x0.length : Int) 0)
def impl_isGridOf.l0 : Nat → List ByteArray → ByteArray → List ByteArray → Int → Int → Option (Bool)
 | 0, _, _, _, _, _ => none
 | k + 1, x0, x4, x40, x41, x42 => if x42 < x41 then (if 0 ≤ x42 then (if x42 < (x40.length : Int) then (if 0 < (x0.length : Int) then (if ((rdOf ByteArray.empty x40 x42).size : Int) = ((rdOf ByteArray.empty x0 0).size : Int) then (impl_isGridOf.l1 k x0 x4 (rdOf ByteArray.empty x40 x42) 0 x40 x41 x42) else (some false)) else (none)) else (none)) else (none)) else (some true)
def impl_isGridOf.l1 : Nat → List ByteArray → ByteArray → ByteArray → Int → List ByteArray → Int → Int → Option (Bool)
 | 0, _, _, _, _, _, _, _ => none
 | k + 1, x0, x4, x12, x13, x40, x41, x42 => if x13 < (x12.size : Int) then (if 0 ≤ x13 then ((strings_IndexByte.f x4 (bt x12 x13)).bind fun oN => (if oN < 0 then (some false) else (impl_isGridOf.l1 k x0 x4 x12 (wrap64 (x13 + 1)) x40 x41 x42))) else (none)) else (impl_isGridOf.l0 k x0 x4 x40 x41 (wrap64 (x42 + 1)))
end
def impl_isGridOf.f (k : Nat) (l0 : List ByteArray) (a1 : Int) (a2 : Int) (a3 : Int) (a4 : ByteArray) : Option (Bool) := if (l0.length : Int) < a1 then (impl_isGridOf.j0 k l0 a4 true) else (if (l0.length : Int) > a2 then (impl_isGridOf.j0 k l0 a4 true) else (if 0 < (l0.length : Int) then (if ((rdOf ByteArray.empty l0 0).size : Int) < a1 then (impl_isGridOf.j0 k l0 a4 true) else (impl_isGridOf.j0 k l0 a4 (decide (((rdOf ByteArray.empty l0 0).size : Int) > a3)))) else (none)))
theorem impl_isGridOf.mono_l : ∀ k, (∀ y0 y1 y2, LeO (impl_isGridOf.j0 k y0 y1 y2) (impl_isGridOf.j0 (k + 1) y0 y1 y2)) ∧ (∀ y0 y1 y2 y3 y4, LeO (impl_isGridOf.l0 k y0 y1 y2 y3 y4) (impl_isGridOf.l0 (k + 1) y0 y1 y2 y3 y4)) ∧ (∀ y0 y1 y2 y3 y4 y5 y6, LeO (impl_isGridOf.l1 k y0 y1 y2 y3 y4 y5 y6) (impl_isGridOf.l1 (k + 1) y0 y1 y2 y3 y4 y5 y6))
 | 0 => ⟨fun _ _ _ r h => by simp [impl_isGridOf.j0] at h, fun _ _ _ _ _ r h => by simp [impl_isGridOf.l0] at h, fun _ _ _ _ _ _ _ r h => by simp [impl_isGridOf.l1] at h⟩
 | k + 1 => by
  obtain ⟨ih0, ih1, ih2⟩ := impl_isGridOf.mono_l k
  refine ⟨?_, ?_, ?_⟩
  ·intro y0 y1 y2
   unfold impl_isGridOf.j0
   exact mo10_
  ·intro y0 y1 y2 y3 y4
   unfold impl_isGridOf.l0
   exact mo10_
  intro y0 y1 y2 y3 y4 y5 y6
  unfold impl_isGridOf.l1
  exact mo10_
theorem impl_isGridOf.mono : ∀ a0 a1 a2 a3 a4 k, LeO (impl_isGridOf.f k a0 a1 a2 a3 a4) (impl_isGridOf.f (k + 1) a0 a1 a2 a3 a4) := by
 intro a0 a1 a2 a3 a4 k
 obtain ⟨ih0, ih1, ih2⟩ := impl_isGridOf.mono_l k
 unfold impl_isGridOf.f
 exact mo10_
set_option maxHeartbeats 8000000 in
set_option maxRecDepth 100000 in
theorem impl_isGridOf.calls (k : Nat) (A0 : Option Addr) (c0 : Nat) (l0 : List ByteArray) (a1 : Int) (a2 : Int) (a3 : Int) (a4 : ByteArray) (r : Bool) (w : World) (hr0 : Kd.C Kd.string w A0 l0.length l0) (hc0 : l0.length ≤ c0) (h : impl_isGridOf.f k l0 a1 a2 a3 a4 = some r) :
  Calls Tryz.prog 36 #[.slice A0 l0.length c0, .int .i64 a1, .int .i64 a2, .int .i64 a3, .string a4] w fun e w' => e = .returned (.bool r) ∧ Drawn0 w w' := by
 have HR0 := Aside0.mk hr0
 have HC0 := Aside0.mk hc0
 clear hr0 hc0
 have H : (if (l0.length : Int) < a1 then (impl_isGridOf.j0 k l0 a4 true) else (if (l0.length : Int) > a2 then (impl_isGridOf.j0 k l0 a4 true) else (if 0 < (l0.length : Int) then (if ((rdOf ByteArray.empty l0 0).size : Int) < a1 then (impl_isGridOf.j0 k l0 a4 true) else (impl_isGridOf.j0 k l0 a4 (decide (((rdOf ByteArray.empty l0 0).size : Int) > a3)))) else (none)))) = some r := h
 clear h
 have HC6 := Aside0.mk H
 clear H
 go_enter Tryz.func36, Tryz.ntmps36
 go_upto_region 1 with (fail)
 go_cut [39] (fun v39 wc => ∃ (kq : Nat) (pI : Bool), v39 = .bool pI ∧ Aside0 (impl_isGridOf.j0 kq l0 a4 pI = some r) ∧ Aside0 (kq ≤ k) ∧ Drawn0 w wc)
 case first =>
  have H := HC6.out
  clear HC6
  by_cases c7 : (l0.length : Int) < a1
  ·rw [if_pos c7] at H
   have cd : decide ((l0.length : Int) < a1) = true := decide_eq_true c7
   clear c7
   (first | rw [cd] | (simp only [i64_w, i32_w]; rw [cd]) | skip)
   have H' := Aside0.mk H
   clear H
   go_wp2
   go_meet
   case rel => exact ⟨_, (true), (Z11), H', ⟨Z69⟩, Z14⟩
  rw [if_neg c7] at H
  have cd : decide ((l0.length : Int) < a1) = false := decide_eq_false c7
  clear c7
  (first | rw [cd] | (simp only [i64_w, i32_w]; rw [cd]) | skip)
  by_cases c8 : (l0.length : Int) > a2
  ·rw [if_pos c8] at H
   have ep : decide (a2 < (l0.length : Int)) = true := decide_eq_true c8
   clear c8
   have H' := Aside0.mk H
   clear H
   go_wp2
   go_meet
   case rel => exact ⟨_, (true), (Z11), H', ⟨Z69⟩, Z14⟩
  rw [if_neg c8] at H
  have ep : decide (a2 < (l0.length : Int)) = false := decide_eq_false c8
  clear c8
  by_cases c9 : 0 < (l0.length : Int)
  case neg => rw [if_neg c9] at H; exact absurd H (by simp)
  rw [if_pos c9] at H
  have gM : decide (0 < (l0.length : Int)) = true := decide_eq_true c9
  have qr : decide (0 < l0.length) = true := decide_eq_true (by omega)
  clear c9
  by_cases c10 : ((rdOf ByteArray.empty l0 0).size : Int) < a1
  ·rw [if_pos c10] at H
   have b7 : decide (((rdOf ByteArray.empty l0 0).size : Int) < a1) = true := decide_eq_true c10
   clear c10
   have H' := Aside0.mk H
   clear H
   have l8 : 0 ≤ (0 : Int) := (by omega)
   have l9 : 0 < (l0.length : Int) := of_decide_eq_true (Z8)
   obtain ⟨vN, e426, fz⟩ := Kd.at_string HR0.out 0 l8 l9
   cases e426
   have qi426 : (0 < l0.length) = True := eq_true (by omega)
   (try rw [show ((0 : Int)).toNat = 0 from rfl] at fz)
   (try rw [Addr.add_zero'] at fz)
   replace l8 := eq_true l8
   replace l9 := eq_true l9
   go_wp2
   go_meet
   case rel => exact ⟨_, (true), (Z11), H', ⟨Z69⟩, Z14⟩
  rw [if_neg c10] at H
  have b7 : decide (((rdOf ByteArray.empty l0 0).size : Int) < a1) = false := decide_eq_false c10
  clear c10
  have H' := Aside0.mk H
  clear H
  have l8 : 0 ≤ (0 : Int) := (by omega)
  have l9 : 0 < (l0.length : Int) := of_decide_eq_true (Z8)
  obtain ⟨vN, e426, fz⟩ := Kd.at_string HR0.out 0 l8 l9
  cases e426
  have qi426 : (0 < l0.length) = True := eq_true (by omega)
  (try rw [show ((0 : Int)).toNat = 0 from rfl] at fz)
  (try rw [Addr.add_zero'] at fz)
  replace l8 := eq_true l8
  replace l9 := eq_true l9
  have ue : 0 ≤ (0 : Int) := (by omega)
  have uf : 0 < (l0.length : Int) := of_decide_eq_true (Z8)
  obtain ⟨ad427, e427, ls⟩ := Kd.at_string HR0.out 0 ue uf
  obtain rfl : vN = ad427 := (by injection e427)
  have qi427 : (0 < l0.length) = True := eq_true (by omega)
  (try rw [show ((0 : Int)).toNat = 0 from rfl] at ls)
  (try rw [Addr.add_zero'] at ls)
  replace ue := eq_true ue
  replace uf := eq_true uf
  go_wp2
  go_meet
  case rel => exact ⟨_, (decide (((rdOf ByteArray.empty l0 0).size : Int) > a3)), (Z11), H', ⟨Z69⟩, Z14⟩
 case rest =>
  clear HC6
  obtain ⟨kq, pI, rfl, HA, oK, ⟨mc5, rfl⟩⟩ := hcut
  cases kq with
  | zero => exact absurd HA.out (by simp [impl_isGridOf.j0])
  | succ oO =>
   have H := HA.out
   clear HA
   simp only [impl_isGridOf.j0] at H
   by_cases c11 : pI = true
   ·subst c11
    rw [if_pos rfl] at H
    obtain rfl := Option.some.inj H
    go_wp2
    go_ret
    exact ⟨Z11, Z14⟩
   replace c11 := Bool.eq_false_iff.mpr c11
   subst c11
   rw [if_neg (show ¬ (false = true) by decide)] at H
   have H' := Aside0.mk H
   clear H
   go_wp2
   go_loopg [42] oO (fun kq Cu w' => ∃ (bu : Int), Cu = .int .i64 bu ∧ Aside0 (impl_isGridOf.l0 kq l0 a4 l0 (l0.length : Int) bu = some r) ∧ Aside0 (kq ≤ oO) ∧ Drawn0 w w')
   case atStart => exact ⟨(0), (Z11), H', ⟨Nat.le_refl _⟩, Z14⟩
   case round =>
    clear H'
    (try clear c11)
    obtain ⟨bu, rfl, HA, HK2, ⟨m2, rfl⟩⟩ := hrel
    cases gk with
    | zero => exact absurd HA.out (by simp [impl_isGridOf.l0])
    | succ k2 =>
     have H := HA.out
     clear HA
     simp only [impl_isGridOf.l0] at H
     by_cases c12 : bu < (l0.length : Int)
     ·rw [if_pos c12] at H
      have dp : decide (bu < (l0.length : Int)) = true := decide_eq_true c12
      clear c12
      by_cases c13 : 0 ≤ bu
      case neg => rw [if_neg c13] at H; exact absurd H (by simp)
      rw [if_pos c13] at H
      have cq : decide (0 ≤ bu) = true := decide_eq_true c13
      clear c13
      by_cases c14 : bu < (l0.length : Int)
      case neg => rw [if_neg c14] at H; exact absurd H (by simp)
      rw [if_pos c14] at H
      have ee : decide (bu < (l0.length : Int)) = true := decide_eq_true c14
      clear c14
      by_cases c15 : 0 < (l0.length : Int)
      case neg => rw [if_neg c15] at H; exact absurd H (by simp)
      rw [if_pos c15] at H
      have fQ : decide (0 < (l0.length : Int)) = true := decide_eq_true c15
      have iK : decide (0 < l0.length) = true := decide_eq_true (by omega)
      clear c15
      by_cases c16 : ((rdOf ByteArray.empty l0 bu).size : Int) = ((rdOf ByteArray.empty l0 0).size : Int)
      ·rw [if_pos c16] at H
       have e6 : (((rdOf ByteArray.empty l0 bu).size : Int) == ((rdOf ByteArray.empty l0 0).size : Int)) = true := beq_iff_eq.mpr c16
       have pJ : (((rdOf ByteArray.empty l0 bu).size : Int) != ((rdOf ByteArray.empty l0 0).size : Int)) = false := bne_eq_false_iff_eq.mpr c16
       have vO : ((rdOf ByteArray.empty l0 bu).size == (rdOf ByteArray.empty l0 0).size) = true := by first | simpa using c16 | (simp at c16 ⊢; omega)
       clear c16
       have H' := Aside0.mk H
       clear H
       have ma : 0 ≤ (bu : Int) := of_decide_eq_true (Z8)
       have mb : bu < (l0.length : Int) := of_decide_eq_true (Z8)
       obtain ⟨rJ, e428, pK⟩ := Kd.at_string HR0.out bu ma mb
       cases e428
       replace ma := eq_true ma
       replace mb := eq_true mb
       have mc : 0 ≤ (0 : Int) := (by omega)
       have me : 0 < (l0.length : Int) := of_decide_eq_true (Z8)
       obtain ⟨rK, e429, fA⟩ := Kd.at_string HR0.out 0 mc me
       obtain rfl : rJ = rK := (by injection e429)
       have qi429 : (0 < l0.length) = True := eq_true (by omega)
       (try rw [show ((0 : Int)).toNat = 0 from rfl] at fA)
       (try rw [Addr.add_zero'] at fA)
       replace mc := eq_true mc
       replace me := eq_true me
       go_wp2
       go_loopg [13] k2 (fun kq ug w' => ∃ (cI : Int), ug = .int .i64 cI ∧ Aside0 (impl_isGridOf.l1 kq l0 a4 (rdOf ByteArray.empty l0 bu) cI l0 (l0.length : Int) bu = some r) ∧ Aside0 (kq ≤ k2) ∧ Drawn0 w w')
       case atStart => exact ⟨(0), (Z11), H', ⟨Nat.le_refl _⟩, Z14⟩
       case round =>
        clear H'
        (try clear c12); (try clear dp); (try clear c13); (try clear cq); (try clear c14); (try clear ee); (try clear c15); (try clear fQ); (try clear iK); (try clear c16); (try clear e6); (try clear pJ); (try clear vO); (try clear pK); (try clear fA); (try clear ma); (try clear mc); (try clear mb); (try clear me)
        obtain ⟨cI, rfl, HA, HK3, ⟨m3, rfl⟩⟩ := hrel
        cases gk with
        | zero => exact absurd HA.out (by simp [impl_isGridOf.l1])
        | succ k3 =>
         have H := HA.out
         clear HA
         simp only [impl_isGridOf.l1] at H
         by_cases c17 : cI < ((rdOf ByteArray.empty l0 bu).size : Int)
         ·rw [if_pos c17] at H
          have gf : decide (cI < ((rdOf ByteArray.empty l0 bu).size : Int)) = true := decide_eq_true c17
          clear c17
          by_cases c18 : 0 ≤ cI
          case neg => rw [if_neg c18] at H; exact absurd H (by simp)
          rw [if_pos c18] at H
          have iL : decide (0 ≤ cI) = true := decide_eq_true c18
          clear c18
          obtain ⟨oN, cj, H⟩ := bd_ H
          (try dsimp only at H)
          by_cases c21 : oN < 0
          ·rw [if_pos c21] at H
           have mg : decide (oN < 0) = true := decide_eq_true c21
           clear c21
           obtain rfl := Option.some.inj H
           have zY : 0 ≤ (cI : Int) := of_decide_eq_true (Z8)
           have uh : cI < ((rdOf ByteArray.empty l0 bu).size : Int) := of_decide_eq_true (Z8)
           have hx19 := bt_at (rdOf ByteArray.empty l0 bu) cI
           replace zY := eq_true zY
           replace uh := eq_true uh
           go_wp2_with ((with_reducible refine gate_callee (f := 60) rfl ?_); refine gl_ 63 Tryz.func60 #[.string a4, .int .u8 (bt (rdOf ByteArray.empty l0 bu) cI)] ?_; (with_reducible refine (strings_IndexByte.calls a4 (bt (rdOf ByteArray.empty l0 bu) cI) oN _ cj.out).mono ?_); rintro e w' ⟨rfl, ⟨nd, rfl⟩⟩; refine ⟨_, rfl, ?_⟩)
           go_ret
           exact ⟨Z11, Z14⟩
          rw [if_neg c21] at H
          have mg : decide (oN < 0) = false := decide_eq_false c21
          clear c21
          have H' := Aside0.mk H
          clear H
          have zY : 0 ≤ (cI : Int) := of_decide_eq_true (Z8)
          have uh : cI < ((rdOf ByteArray.empty l0 bu).size : Int) := of_decide_eq_true (Z8)
          have hx19 := bt_at (rdOf ByteArray.empty l0 bu) cI
          replace zY := eq_true zY
          replace uh := eq_true uh
          go_wp2_with ((with_reducible refine gate_callee (f := 60) rfl ?_); refine gl_ 63 Tryz.func60 #[.string a4, .int .u8 (bt (rdOf ByteArray.empty l0 bu) cI)] ?_; (with_reducible refine (strings_IndexByte.calls a4 (bt (rdOf ByteArray.empty l0 bu) cI) oN _ cj.out).mono ?_); rintro e w' ⟨rfl, ⟨nd, rfl⟩⟩; refine ⟨_, rfl, ?_⟩)
          go_roundg k3
          case measure => have := oK.out; have := HK2.out; have := HK3.out; omega
          case rel => exact ⟨(wrap64 (cI + 1)), (Z11), H', ⟨by have := oK.out; have := HK2.out; have := HK3.out; omega⟩, Z14⟩
         rw [if_neg c17] at H
         have gf : decide (cI < ((rdOf ByteArray.empty l0 bu).size : Int)) = false := decide_eq_false c17
         clear c17
         have H' := Aside0.mk H
         clear H
         go_wp2
         go_roundg k3
         case measure => have := oK.out; have := HK2.out; have := HK3.out; omega
         case rel => exact ⟨(wrap64 (bu + 1)), (Z11), H', ⟨by have := oK.out; have := HK2.out; have := HK3.out; omega⟩, Z14⟩
      rw [if_neg c16] at H
      have e6 : (((rdOf ByteArray.empty l0 bu).size : Int) == ((rdOf ByteArray.empty l0 0).size : Int)) = false := beq_eq_false_iff_ne.mpr c16
      have pJ : (((rdOf ByteArray.empty l0 bu).size : Int) != ((rdOf ByteArray.empty l0 0).size : Int)) = true := bne_iff_ne.mpr c16
      have vO : ((rdOf ByteArray.empty l0 bu).size == (rdOf ByteArray.empty l0 0).size) = false := by first | simpa using c16 | (simp at c16 ⊢; omega)
      obtain rfl := Option.some.inj H
      have ma : 0 ≤ (bu : Int) := of_decide_eq_true (Z8)
      have mb : bu < (l0.length : Int) := of_decide_eq_true (Z8)
      obtain ⟨rJ, e428, pK⟩ := Kd.at_string HR0.out bu ma mb
      cases e428
      replace ma := eq_true ma
      replace mb := eq_true mb
      have mc : 0 ≤ (0 : Int) := (by omega)
      have me : 0 < (l0.length : Int) := of_decide_eq_true (Z8)
      obtain ⟨rK, e429, fA⟩ := Kd.at_string HR0.out 0 mc me
      obtain rfl : rJ = rK := (by injection e429)
      have qi429 : (0 < l0.length) = True := eq_true (by omega)
      (try rw [show ((0 : Int)).toNat = 0 from rfl] at fA)
      (try rw [Addr.add_zero'] at fA)
      replace mc := eq_true mc
      replace me := eq_true me
      go_wp2
      go_ret
      exact ⟨Z11, Z14⟩
     rw [if_neg c12] at H
     have dp : decide (bu < (l0.length : Int)) = false := decide_eq_false c12
     clear c12
     obtain rfl := Option.some.inj H
     go_wp2
     go_ret
     exact ⟨Z11, Z14⟩

/-! ### impl_IsScan: function 10 -/
def impl_IsScan.f (k : Nat) (l0 : List ByteArray) : Option (Bool) := (impl_isGridOf.f k l0 1 60 20 (⟨#[46, 111, 63]⟩ : ByteArray)).bind fun qt => (some qt)
theorem impl_IsScan.mono : ∀ a0 k, LeO (impl_IsScan.f k a0) (impl_IsScan.f (k + 1) a0) := by
 intro a0 k
 unfold impl_IsScan.f
 exact mo10_
set_option maxHeartbeats 8000000 in
set_option maxRecDepth 100000 in
theorem impl_IsScan.calls (k : Nat) (A0 : Option Addr) (c0 : Nat) (l0 : List ByteArray) (r : Bool) (w : World) (hr0 : Kd.C Kd.string w A0 l0.length l0) (hc0 : l0.length ≤ c0) (h : impl_IsScan.f k l0 = some r) :
  Calls Tryz.prog 10 #[.slice A0 l0.length c0] w fun e w' => e = .returned (.bool r) ∧ Drawn0 w w' := by
 have HR0 := Aside0.mk hr0
 have HC0 := Aside0.mk hc0
 clear hr0 hc0
 have H : ((impl_isGridOf.f k l0 1 60 20 (⟨#[46, 111, 63]⟩ : ByteArray)).bind fun qt => (some qt)) = some r := h
 clear h
 obtain ⟨qt, A2, H⟩ := bd_ H
 replace H : (some qt) = some r := H
 obtain rfl := Option.some.inj H
 go_enter Tryz.func10, Tryz.ntmps10
 go_wp2_with ((with_reducible refine gate_callee (f := 36) rfl ?_); refine gl_ 4 Tryz.func36 #[.slice A0 l0.length c0, .int .i64 1, .int .i64 60, .int .i64 20, .string (⟨#[46, 111, 63]⟩ : ByteArray)] ?_; (with_reducible refine (impl_isGridOf.calls k _ _ l0 1 60 20 (⟨#[46, 111, 63]⟩ : ByteArray) qt _ ?_ ?_ A2.out).mono ?_); exact (Z10 HR0); exact HC0.out; rintro e w' ⟨rfl, ⟨nd, rfl⟩⟩; refine ⟨_, rfl, ?_⟩)
 go_ret
 exact ⟨Z11, Z14⟩

/-! ### strings_Count: function 59: by this session -/
def strings_Count.f (a0 : ByteArray) (a1 : ByteArray) : Option (Int) := match a1.data.toList with
 | [c] => some ((Go.Lib.countByte a0.data.toList c : Nat) : Int)
 | _ => none
set_option maxHeartbeats 1000000 in
set_option maxRecDepth 100000 in
theorem strings_Count.one (a0 : ByteArray) (c : UInt8) (w : World) :
  Calls Tryz.prog 59 #[.string a0, .string ⟨#[c]⟩] w fun e w' => e = .returned (.int .i64 (Go.Lib.countByte a0.data.toList c)) ∧ Drawn0 w w' := by
 go_enter Tryz.func59, Tryz.ntmps59
 go_wp2
 rw [run_callFunc_extern Tryz.func74 (by kernel_rfl) (by kernel_rfl) (by kernel_rfl) (e := Extern.BytealgCount.count) (by kernel_rfl), Lib.run_countString]
 simp only [Result.andThen]
 rw [Oper.upon_value]
 go_wp2
 go_ret
 exact ⟨rfl, Drawn0.refl _⟩
theorem strings_Count.calls (a0 : ByteArray) (a1 : ByteArray) (r : Int) (w : World) (h : strings_Count.f a0 a1 = some r) :
  Calls Tryz.prog 59 #[.string a0, .string a1] w fun e w' => e = .returned (.int .i64 r) ∧ Drawn0 w w' := by
 unfold strings_Count.f at h
 split at h
 ·rename_i c hc
  obtain rfl := Option.some.inj h
  have e : a1 = ⟨#[c]⟩ := by
   obtain ⟨⟨l⟩⟩ := a1
   simp only at hc
   rw [hc]
  subst e
  exact strings_Count.one a0 c w
 cases h

/-! ### impl_countChar: function 35 -/
def impl_countChar.l0 : Nat → ByteArray → Int → List ByteArray → Int → Int → Option (Int)
 | 0, _, _, _, _, _ => none
 | k + 1, x1, x5, x8, x9, x10 => if x10 < x9 then (if 0 ≤ x10 then (if x10 < (x8.length : Int) then ((strings_Count.f (rdOf ByteArray.empty x8 x10) x1).bind fun ui => (impl_countChar.l0 k x1 (wrap64 (x5 + ui)) x8 x9 (wrap64 (x10 + 1)))) else (none)) else (none)) else (some x5)
def impl_countChar.f (k : Nat) (l0 : List ByteArray) (a1 : ByteArray) : Option (Int) := impl_countChar.l0 k a1 0 l0 (l0.length : Int) 0
theorem impl_countChar.mono_l : ∀ k, (∀ y0 y1 y2 y3 y4, LeO (impl_countChar.l0 k y0 y1 y2 y3 y4) (impl_countChar.l0 (k + 1) y0 y1 y2 y3 y4))
 | 0 => fun _ _ _ _ _ r h => by simp [impl_countChar.l0] at h
 | k + 1 => by
  have ih0 := impl_countChar.mono_l k
  ·intro y0 y1 y2 y3 y4
   unfold impl_countChar.l0
   exact mo10_
theorem impl_countChar.mono : ∀ a0 a1 k, LeO (impl_countChar.f k a0 a1) (impl_countChar.f (k + 1) a0 a1) := by
 intro a0 a1 k
 have ih0 := impl_countChar.mono_l k
 unfold impl_countChar.f
 exact mo10_
set_option maxHeartbeats 8000000 in
set_option maxRecDepth 100000 in
theorem impl_countChar.calls (k : Nat) (A0 : Option Addr) (c0 : Nat) (l0 : List ByteArray) (a1 : ByteArray) (r : Int) (w : World) (hr0 : Kd.C Kd.string w A0 l0.length l0) (hc0 : l0.length ≤ c0) (h : impl_countChar.f k l0 a1 = some r) :
  Calls Tryz.prog 35 #[.slice A0 l0.length c0, .string a1] w fun e w' => e = .returned (.int .i64 r) ∧ Drawn0 w w' := by
 have HR0 := Aside0.mk hr0
 have HC0 := Aside0.mk hc0
 clear hr0 hc0
 have H : (impl_countChar.l0 k a1 0 l0 (l0.length : Int) 0) = some r := h
 clear h
 have H' := Aside0.mk H
 clear H
 go_enter Tryz.func35, Tryz.ntmps35
 go_wp2
 go_loopg [5, 10] k (fun kq v5 qu w' => ∃ (ag : Int) (aa : Int), v5 = .int .i64 ag ∧ qu = .int .i64 aa ∧ Aside0 (impl_countChar.l0 kq a1 ag l0 (l0.length : Int) aa = some r) ∧ Aside0 (kq ≤ k) ∧ Drawn0 w w')
 case atStart => exact ⟨(0), (0), (Z11), (Z11), H', ⟨Nat.le_refl _⟩, Z14⟩
 case round =>
  clear H'
  obtain ⟨ag, aa, rfl, rfl, HA, HK1, ⟨m1, rfl⟩⟩ := hrel
  cases gk with
  | zero => exact absurd HA.out (by simp [impl_countChar.l0])
  | succ k1 =>
   have H := HA.out
   clear HA
   simp only [impl_countChar.l0] at H
   by_cases c3 : aa < (l0.length : Int)
   ·rw [if_pos c3] at H
    have bA : decide (aa < (l0.length : Int)) = true := decide_eq_true c3
    clear c3
    by_cases c4 : 0 ≤ aa
    case neg => rw [if_neg c4] at H; exact absurd H (by simp)
    rw [if_pos c4] at H
    have bZ : decide (0 ≤ aa) = true := decide_eq_true c4
    clear c4
    by_cases c5 : aa < (l0.length : Int)
    case neg => rw [if_neg c5] at H; exact absurd H (by simp)
    rw [if_pos c5] at H
    have ci : decide (aa < (l0.length : Int)) = true := decide_eq_true c5
    clear c5
    obtain ⟨ui, A6, H⟩ := bd_ H
    (try dsimp only at H)
    have H' := Aside0.mk H
    clear H
    have xS : 0 ≤ (aa : Int) := of_decide_eq_true (Z8)
    have xT : aa < (l0.length : Int) := of_decide_eq_true (Z8)
    obtain ⟨ad432, e432, hx432_0⟩ := Kd.at_string HR0.out aa xS xT
    cases e432
    replace xS := eq_true xS
    replace xT := eq_true xT
    go_wp2_with ((with_reducible refine gate_callee (f := 59) rfl ?_); refine gl_ 17 Tryz.func59 #[.string (rdOf ByteArray.empty l0 aa), .string a1] ?_; (with_reducible refine (strings_Count.calls (rdOf ByteArray.empty l0 aa) a1 ui _ A6.out).mono ?_); rintro e w' ⟨rfl, ⟨nd, rfl⟩⟩; refine ⟨_, rfl, ?_⟩)
    go_roundg k1
    case measure => have := HK1.out; omega
    case rel => exact ⟨(wrap64 (ag + ui)), (wrap64 (aa + 1)), (Z11), (Z11), H', ⟨Z83 HK1⟩, Z14⟩
   rw [if_neg c3] at H
   have bA : decide (aa < (l0.length : Int)) = false := decide_eq_false c3
   clear c3
   obtain rfl := Option.some.inj H
   go_wp2
   go_ret
   exact ⟨Z11, Z14⟩

/-! ### impl_CountStains: function 9 -/
def impl_CountStains.f (k : Nat) (l0 : List ByteArray) : Option (Int × Bool) := (impl_IsScan.f k l0).bind fun rL => (if rL = true then ((impl_countChar.f k l0 (⟨#[63]⟩ : ByteArray)).bind fun qv => (some (qv, true))) else (some (0, false)))
theorem impl_CountStains.mono : ∀ a0 k, LeO (impl_CountStains.f k a0) (impl_CountStains.f (k + 1) a0) := by
 intro a0 k
 unfold impl_CountStains.f
 exact mo10_
set_option maxHeartbeats 8000000 in
set_option maxRecDepth 100000 in
theorem impl_CountStains.calls (k : Nat) (A0 : Option Addr) (c0 : Nat) (l0 : List ByteArray) (r1 : Int) (r2 : Bool) (w : World) (hr0 : Kd.C Kd.string w A0 l0.length l0) (hc0 : l0.length ≤ c0) (h : impl_CountStains.f k l0 = some (r1, r2)) :
  Calls Tryz.prog 9 #[.slice A0 l0.length c0] w fun e w' => e = .returned (.tuple #[.int .i64 r1, .bool r2]) ∧ Drawn0 w w' := by
 have HR0 := Aside0.mk hr0
 have HC0 := Aside0.mk hc0
 clear hr0 hc0
 have H : ((impl_IsScan.f k l0).bind fun rL => (if rL = true then ((impl_countChar.f k l0 (⟨#[63]⟩ : ByteArray)).bind fun qv => (some (qv, true))) else (some (0, false)))) = some (r1, r2) := h
 clear h
 obtain ⟨rL, A2, H⟩ := bd_ H
 (try dsimp only at H)
 by_cases c3 : rL = true
 ·subst c3
  rw [if_pos rfl] at H
  obtain ⟨qv, A4, H⟩ := bd_ H
  replace H : (some (qv, true)) = some (r1, r2) := H
  simp only [Option.some.injEq, Prod.mk.injEq] at H
  obtain ⟨rfl, rfl⟩ := H
  go_enter Tryz.func9, Tryz.ntmps9
  go_wp2_with (first | ((with_reducible refine gate_callee (f := 10) rfl ?_); refine gl_ 5 Tryz.func10 #[.slice A0 l0.length c0] ?_; (with_reducible refine (impl_IsScan.calls k _ _ l0 true _ ?_ ?_ A2.out).mono ?_); exact (Z10 HR0); exact HC0.out; rintro e w' ⟨rfl, ⟨nd, rfl⟩⟩; refine ⟨_, rfl, ?_⟩) | ((with_reducible refine gate_callee (f := 35) rfl ?_); refine gl_ 8 Tryz.func35 #[.slice A0 l0.length c0, .string (⟨#[63]⟩ : ByteArray)] ?_; (with_reducible refine (impl_countChar.calls k _ _ l0 (⟨#[63]⟩ : ByteArray) qv _ ?_ ?_ A4.out).mono ?_); exact (Z10 HR0); exact HC0.out; rintro e w' ⟨rfl, ⟨nd, rfl⟩⟩; refine ⟨_, rfl, ?_⟩))
  go_ret2
  exact ⟨Z11, Z14⟩
 replace c3 := Bool.eq_false_iff.mpr c3
 subst c3
 rw [if_neg (show ¬ (false = true) by decide)] at H
 simp only [Option.some.injEq, Prod.mk.injEq] at H
 obtain ⟨rfl, rfl⟩ := H
 go_enter Tryz.func9, Tryz.ntmps9
 go_wp2_with ((with_reducible refine gate_callee (f := 10) rfl ?_); refine gl_ 5 Tryz.func10 #[.slice A0 l0.length c0] ?_; (with_reducible refine (impl_IsScan.calls k _ _ l0 false _ ?_ ?_ A2.out).mono ?_); exact (Z10 HR0); exact HC0.out; rintro e w' ⟨rfl, ⟨nd, rfl⟩⟩; refine ⟨_, rfl, ?_⟩)
 go_ret2
 exact ⟨Z11, Z14⟩

end Go.Proofs.YtcpbncljimmkfaaGreatDoor.PFnScans
