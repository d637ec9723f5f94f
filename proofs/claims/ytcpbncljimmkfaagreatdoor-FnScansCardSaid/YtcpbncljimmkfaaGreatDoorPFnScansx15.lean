-- written by a program of this session: the kit's print, with outer functions of the session's own (wip/ext)
import Derived.Test.YtcpbncljimmkfaaGreatDoorPFnScansx0
import Derived.Test.YtcpbncljimmkfaaGreatDoorPFnScansx10
import Derived.Test.YtcpbncljimmkfaaGreatDoorPFnScansx14
namespace Go.Proofs.YtcpbncljimmkfaaGreatDoor.PFnScans
open Go.RowKit Go.Proofs.YtcpbncljimmkfaaGreatDoorW.PrintWords Go.Proofs.YtcpbncljimmkfaaGreatDoorW.PrintLast Go.Proofs.YtcpbncljimmkfaaGreatDoorW.PrintMore
attribute [local go_sem] max2_int min2_int max_two min_two max_three min_three max_four min_four   -- for this text's walks alone
set_option linter.unusedVariables false
set_option linter.unusedSimpArgs false
theorem mo15_ {p : Prop} (h : p := by repeat' first | (with_reducible first | apply ih0 | apply ih0 | apply ih1 | apply ih1 | apply ih2 | apply ih2 | apply ih3 | apply ih3 | apply ih4 | apply ih4 | apply impl_CountStains.mono | apply impl_CountStains.mono | apply impl_sheetOf.mono | apply impl_sheetOf.mono | exact LeO.refl _ | exact LeO.none _ | refine LeO.ite ?_ ?_ | refine LeO.bind ?_ (fun _ => ?_)) | exact LeO.none _ | refine LeO.ite ?_ ?_ | refine LeO.bind ?_ (fun _ => ?_)) : p := h

/-! ### impl_HolesIn: function 16 -/
mutual
def impl_HolesIn.j0 : Nat → List ByteArray → Bool → Option ((List (S55)) × Bool)
 | 0, _, _ => none
 | k + 1, x0, x21 => if x21 = true then (some (([] : List (S55)), false)) else (if 0 < (x0.length : Int) then (impl_HolesIn.l0 k x0 (([] : List (S55))) ((rdOf ByteArray.empty x0 0).size : Int) 0) else (none))
def impl_HolesIn.l0 : Nat → List ByteArray → List (S55) → Int → Int → Option ((List (S55)) × Bool)
 | 0, _, _, _, _ => none
 | k + 1, x0, x6, x26, x27 => if x27 < x26 then (impl_HolesIn.l1 k x0 x6 x27 (-1) 0 x26 x27) else ((impl_sheetOf.f k x6).bind fun vZ => (some (vZ.1, vZ.2)))
def impl_HolesIn.l1 : Nat → List ByteArray → List (S55) → Int → Int → Int → Int → Int → Option ((List (S55)) × Bool)
 | 0, _, _, _, _, _, _, _ => none
 | k + 1, x0, x6, x7, x8, x9, x26, x27 => if x9 ≤ (x0.length : Int) then (if x9 < (x0.length : Int) then (if 0 ≤ x9 then (if 0 ≤ x7 then (if x7 < ((rdOf ByteArray.empty x0 x9).size : Int) then (impl_HolesIn.j3 k x0 x6 x7 x8 x9 ((bt (rdOf ByteArray.empty x0 x9) x7) == 111) x26 x27) else (none)) else (none)) else (none)) else (impl_HolesIn.j3 k x0 x6 x7 x8 x9 false x26 x27)) else (impl_HolesIn.l0 k x0 x6 x26 (wrap64 (x27 + 1)))
def impl_HolesIn.j3 : Nat → List ByteArray → List (S55) → Int → Int → Int → Bool → Int → Int → Option ((List (S55)) × Bool)
 | 0, _, _, _, _, _, _, _, _ => none
 | k + 1, x0, x6, x7, x8, x9, x10, x26, x27 => if x10 = true then (impl_HolesIn.j4 k x0 x6 x7 x8 x9 x10 x26 x27 (decide (x8 < 0))) else (impl_HolesIn.j4 k x0 x6 x7 x8 x9 x10 x26 x27 false)
def impl_HolesIn.j4 : Nat → List ByteArray → List (S55) → Int → Int → Int → Bool → Int → Int → Bool → Option ((List (S55)) × Bool)
 | 0, _, _, _, _, _, _, _, _, _ => none
 | k + 1, x0, x6, x7, x8, x9, x10, x26, x27, x53 => if x53 = true then (if x10 = true then (impl_HolesIn.l1 k x0 x6 x7 x9 (wrap64 (x9 + 1)) x26 x27) else (if x9 ≥ 0 then (if x6.length < 5864062014805 then (impl_HolesIn.l1 k x0 (x6 ++ [(⟨x7, x9, x9⟩ : S55)]) x7 (-1) (wrap64 (x9 + 1)) x26 x27) else (none)) else (impl_HolesIn.l1 k x0 x6 x7 x9 (wrap64 (x9 + 1)) x26 x27))) else (if x10 = true then (impl_HolesIn.l1 k x0 x6 x7 x8 (wrap64 (x9 + 1)) x26 x27) else (if x8 ≥ 0 then (if x6.length < 5864062014805 then (impl_HolesIn.l1 k x0 (x6 ++ [(⟨x7, x8, x9⟩ : S55)]) x7 (-1) (wrap64 (x9 + 1)) x26 x27) else (none)) else (impl_HolesIn.l1 k x0 x6 x7 x8 (wrap64 (x9 + 1)) x26 x27)))
end
def impl_HolesIn.f (k : Nat) (l0 : List ByteArray) : Option ((List (S55)) × Bool) := (impl_CountStains.f k l0).bind fun mM => (if mM.2 = true then (impl_HolesIn.j0 k l0 (decide (mM.1 > 0))) else (impl_HolesIn.j0 k l0 true))
theorem impl_HolesIn.mono_l : ∀ k, (∀ y0 y1, LeO (impl_HolesIn.j0 k y0 y1) (impl_HolesIn.j0 (k + 1) y0 y1)) ∧ (∀ y0 y1 y2 y3, LeO (impl_HolesIn.l0 k y0 y1 y2 y3) (impl_HolesIn.l0 (k + 1) y0 y1 y2 y3)) ∧ (∀ y0 y1 y2 y3 y4 y5 y6, LeO (impl_HolesIn.l1 k y0 y1 y2 y3 y4 y5 y6) (impl_HolesIn.l1 (k + 1) y0 y1 y2 y3 y4 y5 y6)) ∧ (∀ y0 y1 y2 y3 y4 y5 y6 y7, LeO (impl_HolesIn.j3 k y0 y1 y2 y3 y4 y5 y6 y7) (impl_HolesIn.j3 (k + 1) y0 y1 y2 y3 y4 y5 y6 y7)) ∧ (∀ y0 y1 y2 y3 y4 y5 y6 y7 y8, LeO (impl_HolesIn.j4 k y0 y1 y2 y3 y4 y5 y6 y7 y8) (impl_HolesIn.j4 (k + 1) y0 y1 y2 y3 y4 y5 y6 y7 y8))
 | 0 => ⟨fun _ _ r h => by simp [impl_HolesIn.j0] at h, fun _ _ _ _ r h => by simp [impl_HolesIn.l0] at h, fun _ _ _ _ _ _ _ r h => by simp [impl_HolesIn.l1] at h, fun _ _ _ _ _ _ _ _ r h => by simp [impl_HolesIn.j3] at h, fun _ _ _ _ _ _ _ _ _ r h => by simp [impl_HolesIn.j4] at h⟩
 | k + 1 => by
  obtain ⟨ih0, ih1, ih2, ih3, ih4⟩ := impl_HolesIn.mono_l k
  refine ⟨?_, ?_, ?_, ?_, ?_⟩
  ·intro y0 y1
   unfold impl_HolesIn.j0
   exact mo15_
  ·intro y0 y1 y2 y3
   unfold impl_HolesIn.l0
   exact mo15_
  ·intro y0 y1 y2 y3 y4 y5 y6
   unfold impl_HolesIn.l1
   exact mo15_
  ·intro y0 y1 y2 y3 y4 y5 y6 y7
   unfold impl_HolesIn.j3
   exact mo15_
  intro y0 y1 y2 y3 y4 y5 y6 y7 y8
  unfold impl_HolesIn.j4
  exact mo15_
theorem impl_HolesIn.mono : ∀ a0 k, LeO (impl_HolesIn.f k a0) (impl_HolesIn.f (k + 1) a0) := by
 intro a0 k
 obtain ⟨ih0, ih1, ih2, ih3, ih4⟩ := impl_HolesIn.mono_l k
 unfold impl_HolesIn.f
 exact mo15_
set_option maxHeartbeats 8000000 in
set_option maxRecDepth 100000 in
theorem impl_HolesIn.calls (k : Nat) (A0 : Option Addr) (c0 : Nat) (l0 : List ByteArray) (r1 : List (S55)) (r2 : Bool) (w : World) (hr0 : Kd.C Kd.string w A0 l0.length l0) (hc0 : l0.length ≤ c0) (h : impl_HolesIn.f k l0 = some (r1, r2)) :
  Calls Tryz.prog 16 #[.slice A0 l0.length c0] w fun e w' => ∃ v0_ : Value, e = .returned (.tuple #[v0_, .bool r2]) ∧ Kd.R k55 55 w' w.heap.size (fun _ => True) v0_ r1 ∧ Below w.heap.size w w' := by
 have hu55 := Tryz.underlying55
 have HR0 := Aside0.mk hr0
 have HC0 := Aside0.mk hc0
 clear hr0 hc0
 have HB := Aside0.mk (Below.refl w.heap.size w)
 have H : ((impl_CountStains.f k l0).bind fun mM => (if mM.2 = true then (impl_HolesIn.j0 k l0 (decide (mM.1 > 0))) else (impl_HolesIn.j0 k l0 true))) = some (r1, r2) := h
 clear h
 obtain ⟨⟨AO, mh⟩, A2, H⟩ := bd_ H
 (try dsimp only at H)
 have HC3 := Aside0.mk H
 clear H
 go_enter Tryz.func16, Tryz.ntmps16
 go_upto_region 2 with ((with_reducible refine gate_callee (f := 9) rfl ?_); refine gl_ 13 Tryz.func9 #[.slice A0 l0.length c0] ?_; (with_reducible refine (impl_CountStains.calls k _ _ l0 AO mh _ ?_ ?_ A2.out).mono ?_); exact (Z10 HR0); exact HC0.out; rintro e w' ⟨rfl, ⟨nd, rfl⟩⟩; refine ⟨_, rfl, ?_⟩)
 (try simp only [Act.put, List.setIfInBounds_toArray, List.set_cons_zero, List.set_cons_succ])
 go_cut [21] (fun CD wc => ∃ (kq : Nat) (b3 : Bool), CD = .bool b3 ∧ Aside0 (impl_HolesIn.j0 kq l0 b3 = some (r1, r2)) ∧ Aside0 (kq ≤ k) ∧ Aside0 (Below w.heap.size w wc))
 case first =>
  have H := HC3.out
  clear HC3
  by_cases c4 : mh = true
  ·subst c4
   rw [if_pos rfl] at H
   have H' := Aside0.mk H
   clear H
   go_wp2
   go_meet
   case rel => exact ⟨_, (decide (AO > 0)), (Z11), H', ⟨Z69⟩, ⟨Z2⟩⟩
  replace c4 := Bool.eq_false_iff.mpr c4
  subst c4
  rw [if_neg (show ¬ (false = true) by decide)] at H
  have H' := Aside0.mk H
  clear H
  go_wp2
  go_meet
  case rel => exact ⟨_, (true), (Z11), H', ⟨Z69⟩, ⟨Z2⟩⟩
 case rest =>
  clear HC3
  obtain ⟨kq, b3, rfl, HA, l4, HB⟩ := hcut
  cases kq with
  | zero => exact absurd HA.out (by simp [impl_HolesIn.j0])
  | succ ua =>
   have H := HA.out
   clear HA
   simp only [impl_HolesIn.j0] at H
   by_cases c5 : b3 = true
   ·subst c5
    rw [if_pos rfl] at H
    simp only [Option.some.injEq, Prod.mk.injEq] at H
    obtain ⟨rfl, rfl⟩ := H
    go_wp2
    go_ret2
    exact ⟨_, Z9, Z15, Z2⟩
   replace c5 := Bool.eq_false_iff.mpr c5
   subst c5
   rw [if_neg (show ¬ (false = true) by decide)] at H
   obtain ⟨rM, e7⟩ : ∃ y_ : List (S55), y_ = (([] : List (S55))) := ⟨_, rfl⟩
   replace H : (if 0 < (l0.length : Int) then (impl_HolesIn.l0 ua l0 rM ((rdOf ByteArray.empty l0 0).size : Int) 0) else (none)) = some (r1, r2) := by first | (rw [e7]; with_reducible exact H) | (have H2_ := (Option.bind_some _ _).symm.trans H; rw [e7]; with_reducible exact H2_) | (have H2_ := (Option.bind_some _ _).symm.trans H; with_reducible exact H2_) | with_reducible exact H | (rw [e7]; exact H) | exact H
   have mi := Aside0.mk e7
   clear e7
   by_cases c6 : 0 < (l0.length : Int)
   case neg => rw [if_neg c6] at H; exact absurd H (by simp)
   rw [if_pos c6] at H
   have ck : decide (0 < (l0.length : Int)) = true := decide_eq_true c6
   have gN : decide (0 < l0.length) = true := decide_eq_true (by omega)
   clear c6
   have H' := Aside0.mk H
   clear H
   go_wp2_with ((with_reducible refine gate_dst (N := 22) rfl ?_); refine Kd.R_lit k55 _ 55 ?hg (N := 22) ?hd (xs := ([] : List (S55))) (inner := []) (ok := fun _ => True) (okp := fun _ => True) ?hr ?hp (fun _ hk => hk) trivial (Below.refl _ _) (Nat.le_refl _) (by simp) ?_; (case hd => rfl); (case hg => rfl); (case hr => exact Z41); (case hp => exact (Reps.none _ _)); intro v558 w7 ho8 hb hg_ hnew_; clear hg_ hnew_; (first | rw [← mi.out] at ho8 | (simp only [Int.reduceToNat] at ho8; rw [← mi.out] at ho8)); refine k2_ (Kd.R_lower ho8 (below_size (Z2))) (below_step (Z2) hb) ?_; clear HB; intro rN HB; clear hb ho8; have hL : 0 ≤ (0 : Int) := (by omega); have hP : 0 < (l0.length : Int) := of_decide_eq_true (Z8); obtain ⟨rO, e560, ce⟩ := Kd.at_string HR0.out 0 hL hP; cases e560; have qi560 : (0 < l0.length) = True := eq_true (by omega); (try rw [show ((0 : Int)).toNat = 0 from rfl] at ce); (try rw [Addr.add_zero'] at ce); replace ce := (HB.out.cell (World.block_lt_of_cell? w _ ce)).trans ce; replace hL := eq_true hL; replace hP := eq_true hP)
   (try simp only [Act.put, List.setIfInBounds_toArray, List.set_cons_zero, List.set_cons_succ])
   go_loopg [6, 27] ua (fun kq v6 v27 w' => ∃ (da : List (S55)) (bC : Int), v27 = .int .i64 bC ∧ Aside0 (impl_HolesIn.l0 kq l0 da ((rdOf ByteArray.empty l0 0).size : Int) bC = some (r1, r2)) ∧ Aside0 (kq ≤ ua) ∧ Aside0 (Kd.R k55 55 w' w.heap.size (fun _ => True) v6 da) ∧ Aside0 (Below w.heap.size w w'))
   case atStart => exact ⟨(rM), (0), (Z11), H', ⟨Nat.le_refl _⟩, ⟨Z3 rN⟩, ⟨Z2⟩⟩
   case round =>
    clear H'
    (try clear c5); (try clear c6); (try clear ck); (try clear gN); (try clear ce); (try clear hL); (try clear hP)
    obtain ⟨da, bC, rfl, HA, HK2, bO, HB⟩ := hrel
    cases gk with
    | zero => exact absurd HA.out (by simp [impl_HolesIn.l0])
    | succ k2 =>
     have H := HA.out
     clear HA
     simp only [impl_HolesIn.l0] at H
     by_cases c9 : bC < ((rdOf ByteArray.empty l0 0).size : Int)
     ·rw [if_pos c9] at H
      have gM : decide (bC < ((rdOf ByteArray.empty l0 0).size : Int)) = true := decide_eq_true c9
      clear c9
      have H' := Aside0.mk H
      clear H
      go_wp2
      go_loopg [6, 8, 9] k2 (fun kq v6 v8 v9 w' => ∃ (eW : List (S55)) (fW : Int) (bM : Int), v8 = .int .i64 fW ∧ v9 = .int .i64 bM ∧ Aside0 (impl_HolesIn.l1 kq l0 eW bC fW bM ((rdOf ByteArray.empty l0 0).size : Int) bC = some (r1, r2)) ∧ Aside0 (kq ≤ k2) ∧ Aside0 (Kd.R k55 55 w' w.heap.size (fun _ => True) v6 eW) ∧ Aside0 (Below w.heap.size w w'))
      case atStart => exact ⟨(da), ((-1)), (0), (Z11), (Z11), H', ⟨Nat.le_refl _⟩, ⟨Z3 bO⟩, ⟨Z2⟩⟩
      case round =>
       clear H'
       (try clear c9); (try clear gM)
       obtain ⟨eW, fW, bM, rfl, rfl, HA, HK3, bO, HB⟩ := hrel
       cases gk with
       | zero => exact absurd HA.out (by simp [impl_HolesIn.l1])
       | succ k3 =>
        have H := HA.out
        clear HA
        simp only [impl_HolesIn.l1] at H
        by_cases c10 : bM ≤ (l0.length : Int)
        ·rw [if_pos c10] at H
         have b7 : decide (bM ≤ (l0.length : Int)) = true := decide_eq_true c10
         clear c10
         have HC11 := Aside0.mk H
         clear H
         go_upto_region 12 with (fail)
         go_cut [10] (fun qu wc => ∃ (kq : Nat) (fX : Bool), qu = .bool fX ∧ Aside0 (impl_HolesIn.j3 kq l0 eW bC fW bM fX ((rdOf ByteArray.empty l0 0).size : Int) bC = some (r1, r2)) ∧ Aside0 (kq ≤ k3) ∧ Aside0 (Kd.R k55 55 wc w.heap.size (fun _ => True) u6 eW) ∧ Aside0 (Below w.heap.size w wc))
         case first =>
          have H := HC11.out
          clear HC11
          by_cases c12 : bM < (l0.length : Int)
          ·rw [if_pos c12] at H
           have dp : decide (bM < (l0.length : Int)) = true := decide_eq_true c12
           clear c12
           (first | rw [dp] | (simp only [i64_w, i32_w]; rw [dp]) | skip)
           by_cases c13 : 0 ≤ bM
           case neg => rw [if_neg c13] at H; exact absurd H (by simp)
           rw [if_pos c13] at H
           have cq : decide (0 ≤ bM) = true := decide_eq_true c13
           clear c13
           by_cases c14 : 0 ≤ bC
           case neg => rw [if_neg c14] at H; exact absurd H (by simp)
           rw [if_pos c14] at H
           have ee : decide (0 ≤ bC) = true := decide_eq_true c14
           clear c14
           by_cases c15 : bC < ((rdOf ByteArray.empty l0 bM).size : Int)
           case neg => rw [if_neg c15] at H; exact absurd H (by simp)
           rw [if_pos c15] at H
           have fQ : decide (bC < ((rdOf ByteArray.empty l0 bM).size : Int)) = true := decide_eq_true c15
           clear c15
           have H' := Aside0.mk H
           clear H
           have uE : 0 ≤ (bM : Int) := of_decide_eq_true (Z8)
           have uF : bM < (l0.length : Int) := of_decide_eq_true (Z8)
           obtain ⟨ad565, e565, io⟩ := Kd.at_string HR0.out bM uE uF
           obtain rfl : rO = ad565 := (by injection e565)
           replace io := (HB.out.cell (World.block_lt_of_cell? w _ io)).trans io
           replace uE := eq_true uE
           replace uF := eq_true uF
           have rv : 0 ≤ (bC : Int) := of_decide_eq_true (Z8)
           have rx : bC < ((rdOf ByteArray.empty l0 bM).size : Int) := of_decide_eq_true (Z8)
           have hx16 := bt_at (rdOf ByteArray.empty l0 bM) bC
           replace rv := eq_true rv
           replace rx := eq_true rx
           go_wp2
           go_meet
           case rel => exact ⟨_, (((bt (rdOf ByteArray.empty l0 bM) bC) == 111)), (Z11), H', ⟨by have := l4.out; have := HK2.out; have := HK3.out; first | omega | exact Nat.le_refl _⟩, ⟨Z3 bO⟩, ⟨Z2⟩⟩
          rw [if_neg c12] at H
          have dp : decide (bM < (l0.length : Int)) = false := decide_eq_false c12
          clear c12
          (first | rw [dp] | (simp only [i64_w, i32_w]; rw [dp]) | skip)
          have H' := Aside0.mk H
          clear H
          go_wp2
          go_meet
          case rel => exact ⟨_, (false), (Z11), H', ⟨by have := l4.out; have := HK2.out; have := HK3.out; first | omega | exact Nat.le_refl _⟩, ⟨Z3 bO⟩, ⟨Z2⟩⟩
         case rest =>
          clear HC11
          (try clear c10); (try clear b7)
          obtain ⟨kq, fX, rfl, HA, l5, bO, HB⟩ := hcut
          cases kq with
          | zero => exact absurd HA.out (by simp [impl_HolesIn.j3])
          | succ kj10 =>
           have H := HA.out
           clear HA
           simp only [impl_HolesIn.j3] at H
           have HC17 := Aside0.mk H
           clear H
           go_upto_region 13 with (fail)
           go_cut [53] (fun v53 wc => ∃ (kq : Nat) (ly : Bool), v53 = .bool ly ∧ Aside0 (impl_HolesIn.j4 kq l0 eW bC fW bM fX ((rdOf ByteArray.empty l0 0).size : Int) bC ly = some (r1, r2)) ∧ Aside0 (kq ≤ kj10) ∧ Aside0 (Kd.R k55 55 wc w.heap.size (fun _ => True) u6 eW) ∧ Aside0 (Below w.heap.size w wc))
           case first =>
            have H := HC17.out
            clear HC17
            by_cases c18 : fX = true
            ·subst c18
             rw [if_pos rfl] at H
             have H' := Aside0.mk H
             clear H
             go_wp2
             go_meet
             case rel => exact ⟨_, (decide (fW < 0)), (Z11), H', ⟨Z126⟩, ⟨Z3 bO⟩, ⟨Z2⟩⟩
            replace c18 := Bool.eq_false_iff.mpr c18
            subst c18
            rw [if_neg (show ¬ (false = true) by decide)] at H
            have H' := Aside0.mk H
            clear H
            go_wp2
            go_meet
            case rel => exact ⟨_, (false), (Z11), H', ⟨Z126⟩, ⟨Z3 bO⟩, ⟨Z2⟩⟩
           case rest =>
            clear HC17
            obtain ⟨kq, ly, rfl, HA, oM, bO, HB⟩ := hcut
            cases kq with
            | zero => exact absurd HA.out (by simp [impl_HolesIn.j4])
            | succ mN =>
             have H := HA.out
             clear HA
             simp only [impl_HolesIn.j4] at H
             by_cases c19 : ly = true
             ·subst c19
              rw [if_pos rfl] at H
              by_cases c20 : fX = true
              ·subst c20
               rw [if_pos rfl] at H
               have H' := Aside0.mk H
               clear H
               go_wp2
               go_roundg mN
               case measure => have := l4.out; have := HK2.out; have := HK3.out; have := l5.out; have := oM.out; omega
               case rel => exact ⟨(eW), (bM), (wrap64 (bM + 1)), (Z11), (Z11), H', ⟨Z70⟩, ⟨Z3 bO⟩, ⟨Z2⟩⟩
              replace c20 := Bool.eq_false_iff.mpr c20
              subst c20
              rw [if_neg (show ¬ (false = true) by decide)] at H
              by_cases c21 : bM ≥ 0
              ·rw [if_pos c21] at H
               have mg : decide (0 ≤ bM) = true := decide_eq_true c21
               clear c21
               by_cases c22 : eW.length < 5864062014805
               case neg => rw [if_neg c22] at H; exact absurd H (by simp)
               rw [if_pos c22] at H
               have sp := Aside0.mk c22
               clear c22
               obtain ⟨AP, mO⟩ : ∃ y_ : List (S55), y_ = (eW ++ [(⟨bC, bM, bM⟩ : S55)]) := ⟨_, rfl⟩
               replace H : (impl_HolesIn.l1 mN l0 AP bC (-1) (wrap64 (bM + 1)) ((rdOf ByteArray.empty l0 0).size : Int) bC) = some (r1, r2) := by first | (rw [mO]; with_reducible exact H) | (have H2_ := (Option.bind_some _ _).symm.trans H; rw [mO]; with_reducible exact H2_) | (have H2_ := (Option.bind_some _ _).symm.trans H; with_reducible exact H2_) | with_reducible exact H | (rw [mO]; exact H) | exact H
               have Ny566 := Aside0.mk mO
               clear mO
               have H' := Aside0.mk H
               clear H
               go_wp2_with ((with_reducible refine gate_builtin (b := .append) (xs := #[.tmp 61, .tmp 66]) rfl ?_); at_builtin; refine Kd.R_append k55 (w0 := w) w.heap.size rfl (.tmp 61) (.tmp 66) 24 55 (.agg #[(.int .i64 0), (.int .i64 0), (.int .i64 0)]) 24 rfl Tryz.underlying24 info55 rfl (by decide) (by omega) u6 eW (⟨bC, bM, bM⟩ : S55) [.int .i64 bC, .int .i64 bM, .int .i64 bM] (fun _ => True) (fun _ => False) rfl rfl ?aP (fun _ hk => hk.elim) ?aF ?aO ?aB ?aS ?aL ?_; (case aP => exact k55_mkM _ _ _ (⟨bC, bM, bM⟩ : S55)); (case aB => exact Z2); (case aF => exact (fun _ _ => trivial)); (case aO => exact (Z3 bO)); (case aS => exact (below_size (Z2))); (case aL => exact Z83 sp); intro v567 mm ho hb hg hat; rw [← Ny566.out] at ho; refine k2_ (hb) (ho) ?_; clear HB bO; intro HB rP; clear ho hb hg hat)
               go_roundg mN
               case measure => have := l4.out; have := HK2.out; have := HK3.out; have := l5.out; have := oM.out; omega
               case rel => exact ⟨(AP), ((-1)), (wrap64 (bM + 1)), (Z11), (Z11), H', ⟨Z70⟩, ⟨Z3 rP⟩, ⟨Z2⟩⟩
              rw [if_neg c21] at H
              have mg : decide (0 ≤ bM) = false := decide_eq_false c21
              clear c21
              have H' := Aside0.mk H
              clear H
              go_wp2
              go_roundg mN
              case measure => have := l4.out; have := HK2.out; have := HK3.out; have := l5.out; have := oM.out; omega
              case rel => exact ⟨(eW), (bM), (wrap64 (bM + 1)), (Z11), (Z11), H', ⟨Z70⟩, ⟨Z3 bO⟩, ⟨Z2⟩⟩
             replace c19 := Bool.eq_false_iff.mpr c19
             subst c19
             rw [if_neg (show ¬ (false = true) by decide)] at H
             by_cases c24 : fX = true
             ·subst c24
              rw [if_pos rfl] at H
              have H' := Aside0.mk H
              clear H
              go_wp2
              go_roundg mN
              case measure => have := l4.out; have := HK2.out; have := HK3.out; have := l5.out; have := oM.out; omega
              case rel => exact ⟨(eW), (fW), (wrap64 (bM + 1)), (Z11), (Z11), H', ⟨Z70⟩, ⟨Z3 bO⟩, ⟨Z2⟩⟩
             replace c24 := Bool.eq_false_iff.mpr c24
             subst c24
             rw [if_neg (show ¬ (false = true) by decide)] at H
             by_cases c25 : fW ≥ 0
             ·rw [if_pos c25] at H
              have ld : decide (0 ≤ fW) = true := decide_eq_true c25
              clear c25
              by_cases c26 : eW.length < 5864062014805
              case neg => rw [if_neg c26] at H; exact absurd H (by simp)
              rw [if_pos c26] at H
              have sq := Aside0.mk c26
              clear c26
              obtain ⟨AQ, mP⟩ : ∃ y_ : List (S55), y_ = (eW ++ [(⟨bC, fW, bM⟩ : S55)]) := ⟨_, rfl⟩
              replace H : (impl_HolesIn.l1 mN l0 AQ bC (-1) (wrap64 (bM + 1)) ((rdOf ByteArray.empty l0 0).size : Int) bC) = some (r1, r2) := by first | (rw [mP]; with_reducible exact H) | (have H2_ := (Option.bind_some _ _).symm.trans H; rw [mP]; with_reducible exact H2_) | (have H2_ := (Option.bind_some _ _).symm.trans H; with_reducible exact H2_) | with_reducible exact H | (rw [mP]; exact H) | exact H
              have Ny569 := Aside0.mk mP
              clear mP
              have H' := Aside0.mk H
              clear H
              go_wp2_with ((with_reducible refine gate_builtin (b := .append) (xs := #[.tmp 61, .tmp 66]) rfl ?_); at_builtin; refine Kd.R_append k55 (w0 := w) w.heap.size rfl (.tmp 61) (.tmp 66) 24 55 (.agg #[(.int .i64 0), (.int .i64 0), (.int .i64 0)]) 24 rfl Tryz.underlying24 info55 rfl (by decide) (by omega) u6 eW (⟨bC, fW, bM⟩ : S55) [.int .i64 bC, .int .i64 fW, .int .i64 bM] (fun _ => True) (fun _ => False) rfl rfl ?aP (fun _ hk => hk.elim) ?aF ?aO ?aB ?aS ?aL ?_; (case aP => exact k55_mkM _ _ _ (⟨bC, fW, bM⟩ : S55)); (case aB => exact Z2); (case aF => exact (fun _ _ => trivial)); (case aO => exact (Z3 bO)); (case aS => exact (below_size (Z2))); (case aL => exact Z83 sq); intro v570 zQ ho hb hg hat; rw [← Ny569.out] at ho; refine k2_ (hb) (ho) ?_; clear HB bO; intro HB HO571; clear ho hb hg hat)
              go_roundg mN
              case measure => have := l4.out; have := HK2.out; have := HK3.out; have := l5.out; have := oM.out; omega
              case rel => exact ⟨(AQ), ((-1)), (wrap64 (bM + 1)), (Z11), (Z11), H', ⟨Z70⟩, ⟨Z3 HO571⟩, ⟨Z2⟩⟩
             rw [if_neg c25] at H
             have ld : decide (0 ≤ fW) = false := decide_eq_false c25
             clear c25
             have H' := Aside0.mk H
             clear H
             go_wp2
             go_roundg mN
             case measure => have := l4.out; have := HK2.out; have := HK3.out; have := l5.out; have := oM.out; omega
             case rel => exact ⟨(eW), (fW), (wrap64 (bM + 1)), (Z11), (Z11), H', ⟨Z70⟩, ⟨Z3 bO⟩, ⟨Z2⟩⟩
        rw [if_neg c10] at H
        have b7 : decide (bM ≤ (l0.length : Int)) = false := decide_eq_false c10
        clear c10
        have H' := Aside0.mk H
        clear H
        go_wp2
        go_roundg k3
        case measure => have := l4.out; have := HK2.out; have := HK3.out; omega
        case rel => exact ⟨(eW), (wrap64 (bC + 1)), (Z11), H', ⟨by have := l4.out; have := HK2.out; have := HK3.out; omega⟩, ⟨Z3 bO⟩, ⟨Z2⟩⟩
     rw [if_neg c9] at H
     have gM : decide (bC < ((rdOf ByteArray.empty l0 0).size : Int)) = false := decide_eq_false c9
     clear c9
     obtain ⟨⟨AR, qw⟩, A28, H⟩ := bd_ H
     replace H : (some (AR, qw)) = some (r1, r2) := H
     simp only [Option.some.injEq, Prod.mk.injEq] at H
     obtain ⟨rfl, rfl⟩ := H
     obtain ⟨AT, yH, yI⟩ := Kd.R_slice bO.out
     subst yI
     go_wp2_with ((with_reducible refine gate_callee (f := 45) rfl ?_); refine gl_ 70 Tryz.func45 #[.slice AT da.length yH] ?_; (with_reducible refine (impl_sheetOf.calls k2 _ _ da AR qw _ ?_ ?_ A28.out).mono ?_); exact (Z1 bO); exact (Kd.R_reads' bO.out).2.1; rintro e yJ ⟨v563, rfl, ho0, hb⟩; refine ⟨_, rfl, ?_⟩; refine k3_ (Yb_ bO) (Kd.R_lower (Kd.R_new' ho0 (Yd_ bO)) (below_size (Z2))) (below_step (Z2) hb) ?_; clear bO HB; intro bO HO564 HB; (try clear hb ho0))
     go_ret2
     exact ⟨_, Z9, Z25 HO564, Z2⟩

end Go.Proofs.YtcpbncljimmkfaaGreatDoor.PFnScans
