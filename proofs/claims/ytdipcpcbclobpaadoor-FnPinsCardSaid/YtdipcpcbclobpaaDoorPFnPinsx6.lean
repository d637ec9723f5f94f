-- written by a program of this session: the kit's print, with outer functions of the session's own (wip/ext)
import Derived.Test.YtdipcpcbclobpaaDoorPFnPinsx0
import Derived.Test.YtdipcpcbclobpaaDoorPFnPinsx4
import Derived.Test.YtdipcpcbclobpaaDoorPFnPinsx5
namespace Go.Proofs.YtdipcpcbclobpaaDoor.PFnPins
open Go.RowKit Go.Proofs.YtdipcpcbclobpaaDoorW.PrintWords Go.Proofs.YtdipcpcbclobpaaDoorW.PrintLast Go.Proofs.YtdipcpcbclobpaaDoorW.PrintMore
attribute [local go_sem] max2_int min2_int max_two min_two max_three min_three max_four min_four   -- for this text's walks alone
set_option linter.unusedVariables false
set_option linter.unusedSimpArgs false
theorem mo6_ {p : Prop} (h : p := by repeat' first | (with_reducible first | apply ih0 | apply ih0 | apply ih1 | apply ih1 | apply ih2 | apply ih2 | apply ih3 | apply ih3 | apply spec_cySorted.mono | apply spec_cySorted.mono | exact LeO.refl _ | exact LeO.none _ | refine LeO.ite ?_ ?_ | refine LeO.bind ?_ (fun _ => ?_)) | exact LeO.none _ | refine LeO.ite ?_ ?_ | refine LeO.bind ?_ (fun _ => ?_)) : p := h

/-! ### spec_l1Cur_pins: function 28 -/
mutual
def spec_l1Cur_pins.j0 : Nat → List (S33) → Int → List Int → Int → Int → Option ((List (S33)) × Int × Int)
 | 0, _, _, _, _, _ => none
 | k + 1, x3, x4, cu, eD, eE => spec_l1Cur_pins.l0 k x3 x4 0 cu eD eE
def spec_l1Cur_pins.l0 : Nat → List (S33) → Int → Int → List Int → Int → Int → Option ((List (S33)) × Int × Int)
 | 0, _, _, _, _, _, _ => none
 | k + 1, x3, x4, x5, cu, eD, eE => if (x3.length : Int) < x4 then (spec_l1Cur_pins.j2 k x3 x4 x5 (decide (x5 < 300)) cu eD eE) else (spec_l1Cur_pins.j2 k x3 x4 x5 false cu eD eE)
def spec_l1Cur_pins.j2 : Nat → List (S33) → Int → Int → Bool → List Int → Int → Int → Option ((List (S33)) × Int × Int)
 | 0, _, _, _, _, _, _, _ => none
 | k + 1, x3, x4, x5, x22, cu, eD, eE => if x22 = true then ((spec_l1Cur_pin.f cu eD eE).bind fun eh => (if x4 = 60 then ((some (([] : List (S33)) : List (S33))).bind fun fX => (if fX.length + x3.length < 5864062014805 then ((some (fX ++ x3 : List (S33))).bind fun er => ((some (([(⟨eh.1, wrap64 (6 * (Int.tmod x5 60)), Int.tmod x5 4⟩ : S33)] : List (S33)) : List (S33))).bind fun da => (if er.length + da.length < 5864062014805 then ((spec_cySorted.f k (er ++ da)).bind fun du => (if du.2 = true then (spec_l1Cur_pins.l0 k du.1 x4 (wrap64 (x5 + 1)) cu eh.2.2.2.1 eh.2.2.2.2) else (spec_l1Cur_pins.l0 k x3 x4 (wrap64 (x5 + 1)) cu eh.2.2.2.1 eh.2.2.2.2))) else (none)))) else (none))) else ((some (([] : List (S33)) : List (S33))).bind fun fY => (if fY.length + x3.length < 5864062014805 then ((some (fY ++ x3 : List (S33))).bind fun es => ((some (([(⟨eh.1, eh.2.1, eh.2.2.1⟩ : S33)] : List (S33)) : List (S33))).bind fun db => (if es.length + db.length < 5864062014805 then ((spec_cySorted.f k (es ++ db)).bind fun dv => (if dv.2 = true then (spec_l1Cur_pins.l0 k dv.1 x4 (wrap64 (x5 + 1)) cu eh.2.2.2.1 eh.2.2.2.2) else (spec_l1Cur_pins.l0 k x3 x4 (wrap64 (x5 + 1)) cu eh.2.2.2.1 eh.2.2.2.2))) else (none)))) else (none))))) else (if (x3.length : Int) > 0 then ((spec_l1Cur_pick.f cu eD eE (x3.length : Int)).bind fun dU => (if 0 ≤ dU.1 then (if dU.1 < (x3.length : Int) then ((spec_l1Cur_pick.f cu dU.2.1 dU.2.2 36).bind fun cA => (if cA.1 = 0 then ((spec_l1Cur_among.f cu cA.2.1 cA.2.2 (([(-1), 19, 20] : List Int))).bind fun im => (some ((x3.set (dU.1 : Int).toNat (⟨im.1, (rd_T33 x3 dU.1).f1, (rd_T33 x3 dU.1).f2⟩ : S33)), im.2.1, im.2.2))) else (if cA.1 = 1 then ((spec_l1Cur_among.f cu cA.2.1 cA.2.2 (([(-1), 359, 360] : List Int))).bind fun io => (some ((x3.set (dU.1 : Int).toNat (⟨(rd_T33 x3 dU.1).f0, io.1, (rd_T33 x3 dU.1).f2⟩ : S33)), io.2.1, io.2.2))) else (if cA.1 = 2 then ((spec_l1Cur_among.f cu cA.2.1 cA.2.2 (([(-1), 3, 4] : List Int))).bind fun ip => (some ((x3.set (dU.1 : Int).toNat (⟨(rd_T33 x3 dU.1).f0, (rd_T33 x3 dU.1).f1, ip.1⟩ : S33)), ip.2.1, ip.2.2))) else (if cA.1 = 3 then (if 0 < (x3.length : Int) then ((some (([(⟨(rd_T33 x3 0).f0, (rd_T33 x3 0).f1, (rd_T33 x3 0).f2⟩ : S33)] : List (S33)) : List (S33))).bind fun jy => (if x3.length + jy.length < 5864062014805 then (some ((x3 ++ jy), cA.2.1, cA.2.2)) else (none))) else (none)) else (if cA.1 = 4 then (spec_l1Cur_pins.l1 k x3 0 cu cA.2.1 cA.2.2) else (some (x3, cA.2.1, cA.2.2)))))))) else (none)) else (none))) else (some (x3, eD, eE)))
def spec_l1Cur_pins.l1 : Nat → List (S33) → Int → List Int → Int → Int → Option ((List (S33)) × Int × Int)
 | 0, _, _, _, _, _ => none
 | k + 1, x3, x10, cu, eD, eE => if (x3.length : Int) < 61 then ((some (([(⟨19, wrap64 (5 * x10), 3⟩ : S33)] : List (S33)) : List (S33))).bind fun jz => (if x3.length + jz.length < 5864062014805 then (spec_l1Cur_pins.l1 k (x3 ++ jz) (wrap64 (x10 + 1)) cu eD eE) else (none))) else (some (x3, eD, eE))
end
def spec_l1Cur_pins.f (k : Nat) (s0_0 : List Int) (s0_1 : Int) (s0_2 : Int) : Option ((List (S33)) × Int × Int) := (spec_l1Cur_pick.f s0_0 s0_1 s0_2 9).bind fun iq => ((spec_l1Cur_one.f s0_0 iq.2.1 iq.2.2 24).bind fun eF => (if eF.1 = true then (spec_l1Cur_pins.j0 k ([] : List (S33)) 60 s0_0 eF.2.1 eF.2.2) else (spec_l1Cur_pins.j0 k ([] : List (S33)) iq.1 s0_0 eF.2.1 eF.2.2)))
theorem spec_l1Cur_pins.mono_l : ∀ k, (∀ y0 y1 y2 y3 y4, LeO (spec_l1Cur_pins.j0 k y0 y1 y2 y3 y4) (spec_l1Cur_pins.j0 (k + 1) y0 y1 y2 y3 y4)) ∧ (∀ y0 y1 y2 y3 y4 y5, LeO (spec_l1Cur_pins.l0 k y0 y1 y2 y3 y4 y5) (spec_l1Cur_pins.l0 (k + 1) y0 y1 y2 y3 y4 y5)) ∧ (∀ y0 y1 y2 y3 y4 y5 y6, LeO (spec_l1Cur_pins.j2 k y0 y1 y2 y3 y4 y5 y6) (spec_l1Cur_pins.j2 (k + 1) y0 y1 y2 y3 y4 y5 y6)) ∧ (∀ y0 y1 y2 y3 y4, LeO (spec_l1Cur_pins.l1 k y0 y1 y2 y3 y4) (spec_l1Cur_pins.l1 (k + 1) y0 y1 y2 y3 y4))
 | 0 => ⟨fun _ _ _ _ _ r h => by simp [spec_l1Cur_pins.j0] at h, fun _ _ _ _ _ _ r h => by simp [spec_l1Cur_pins.l0] at h, fun _ _ _ _ _ _ _ r h => by simp [spec_l1Cur_pins.j2] at h, fun _ _ _ _ _ r h => by simp [spec_l1Cur_pins.l1] at h⟩
 | k + 1 => by
  obtain ⟨ih0, ih1, ih2, ih3⟩ := spec_l1Cur_pins.mono_l k
  refine ⟨?_, ?_, ?_, ?_⟩
  ·intro y0 y1 y2 y3 y4
   unfold spec_l1Cur_pins.j0
   exact mo6_
  ·intro y0 y1 y2 y3 y4 y5
   unfold spec_l1Cur_pins.l0
   exact mo6_
  ·intro y0 y1 y2 y3 y4 y5 y6
   unfold spec_l1Cur_pins.j2
   exact mo6_
  intro y0 y1 y2 y3 y4
  unfold spec_l1Cur_pins.l1
  exact mo6_
theorem spec_l1Cur_pins.mono : ∀ a0 a1 a2 k, LeO (spec_l1Cur_pins.f k a0 a1 a2) (spec_l1Cur_pins.f (k + 1) a0 a1 a2) := by
 intro a0 a1 a2 k
 obtain ⟨ih0, ih1, ih2, ih3⟩ := spec_l1Cur_pins.mono_l k
 unfold spec_l1Cur_pins.f
 exact mo6_
def spec_l1Cur_pins.T12 : Bool × List (List Nat × List Nat) := (true, [([], []), ([], []), ([0, 1], [0, 1]), ([], []), ([3], [3]), ([2, 4, 2], [2, 4]), ([5, 5], [5]), ([6], [6]), ([7], [7]), ([7], [7]), ([8, 6, 0, 1, 2, 3, 4, 5, 6, 7, 8], [8]), ([9, 10, 0, 1, 2, 3, 4, 5, 6, 7, 8, 9, 10], [9])])
def spec_l1Cur_pins.B12 : List Nat := [0, 0, 3, 0, 8, 31, 63, 127, 255, 255, 511, 2047]
theorem spec_l1Cur_pins.tab12 : rtab .any (opsOf Tryd.f28 12) = spec_l1Cur_pins.T12 := by kernel_rfl
theorem spec_l1Cur_pins.bits12 : waitsOk spec_l1Cur_pins.T12.2 spec_l1Cur_pins.B12 = true := by kernel_rfl
set_option maxHeartbeats 8000000 in
set_option maxRecDepth 100000 in
theorem spec_l1Cur_pins.calls (k : Nat) (g : Nat) (s0_0 : List Int) (s0_1 : Int) (s0_2 : Int) (r1 : List (S33)) (r2 : Int) (r3 : Int) (w0 w : World) (hI : IsS47 w0 w g s0_0 s0_1 s0_2) (hB : Below w0.heap.size w0 w) (h : spec_l1Cur_pins.f k s0_0 s0_1 s0_2 = some (r1, r2, r3)) :
  Calls Tryd.prog 28 #[.pointer (some ⟨g, 0, none⟩)] w fun e w' => ∃ v0_ : Value, e = .returned (v0_) ∧ Kd.R k33 33 w' w.heap.size (fun _ => True) v0_ r1 ∧ IsS47 w0 w' g s0_0 r2 r3 ∧ Below w0.heap.size w0 w' ∧ KeepBut w w' g none := by
 have hu33 := Tryd.underlying33
 have HI0 := Aside0.mk hI
 have HK := Aside0.mk (KeepBut.refl w g none)
 have HL := Aside0.mk hB.size
 clear hI
 have HW0 := Aside0.mk hB.size
 have HB := Aside0.mk hB
 clear hB
 have H : ((spec_l1Cur_pick.f s0_0 s0_1 s0_2 9).bind fun iq => ((spec_l1Cur_one.f s0_0 iq.2.1 iq.2.2 24).bind fun eF => (if eF.1 = true then (spec_l1Cur_pins.j0 k ([] : List (S33)) 60 s0_0 eF.2.1 eF.2.2) else (spec_l1Cur_pins.j0 k ([] : List (S33)) iq.1 s0_0 eF.2.1 eF.2.2)))) = some (r1, r2, r3) := h
 clear h
 replace H := Option.bind_eq_some_iff.mp H
 obtain ⟨⟨xx, xy, xz⟩, cr, H⟩ := H
 (try dsimp only at H)
 have A2 := Aside0.mk cr
 clear cr
 replace H := Option.bind_eq_some_iff.mp H
 obtain ⟨⟨xA, rF, rG⟩, dF, H⟩ := H
 (try dsimp only at H)
 have A3 := Aside0.mk dF
 clear dF
 have HC4 := Aside0.mk H
 clear H
 go_enter Tryd.func28, Tryd.ntmps28
 go_upto_if 14 with (first | ((with_reducible refine gate_callee (f := 46) rfl ?_); refine gl_ 12 Tryd.func46 #[.pointer (some ⟨g, 0, none⟩), .int .i64 9] ?_; (with_reducible refine (spec_l1Cur_pick.calls g s0_0 s0_1 s0_2 9 xx xy xz w0 _ ?_ ?_ A2.out).mono ?_); exact (Z3 HI0); exact Z8; rintro e w5 ⟨rfl, hi, hb, hk⟩; refine ⟨_, rfl, ?_⟩; refine k3_ (KeepBut.trans (Z7) hk (.inl rfl)) (hb) (hi) ?_; clear HK HB HI0; intro HK HB HI0; (try clear hb hk hi)) | ((with_reducible refine gate_callee (f := 45) rfl ?_); refine gl_ 14 Tryd.func45 #[.pointer (some ⟨g, 0, none⟩), .int .i64 24] ?_; (with_reducible refine (spec_l1Cur_one.calls g s0_0 xy xz 24 xA rF rG w0 _ ?_ ?_ A3.out).mono ?_); exact (Z3 HI0); exact Z8; rintro e w6 ⟨rfl, hi, hb, hk⟩; refine ⟨_, rfl, ?_⟩; refine k3_ (KeepBut.trans (Z7) hk (.inl rfl)) (hb) (hi) ?_; clear HK HB HI0; intro HK HB HI0; (try clear hb hk hi)))
 (try simp only [Act.put, List.setIfInBounds_toArray, List.set_cons_zero, List.set_cons_succ])
 go_cut [4] (fun v4 wc => ∃ (kq : Nat) (ck : Int), v4 = .int .i64 ck ∧ Aside0 (spec_l1Cur_pins.j0 kq ([] : List (S33)) ck s0_0 rF rG = some (r1, r2, r3)) ∧ Aside0 (kq ≤ k) ∧ Aside0 (Kd.R k33 33 wc w.heap.size (fun _ => True) (.slice none 0 0) ([] : List (S33))) ∧ Aside0 (IsS47 w0 wc g s0_0 rF rG) ∧ Aside0 (KeepBut w wc g none) ∧ Aside0 (Below w0.heap.size w0 wc))
 case first =>
  have H := HC4.out
  clear HC4
  by_cases c7 : xA = true
  ·subst c7
   rw [if_pos rfl] at H
   have H' := Aside0.mk H
   clear H
   go_wp2
   go_meet
   case rel => exact ⟨_, (60), (Z14), H', ⟨Z56⟩, ⟨Z21⟩, ⟨Z3 HI0⟩, ⟨Z7⟩, ⟨Z8⟩⟩
  replace c7 := Bool.eq_false_iff.mpr c7
  subst c7
  rw [if_neg (show ¬ (false = true) by decide)] at H
  have H' := Aside0.mk H
  clear H
  go_wp2
  go_meet
  case rel => exact ⟨_, (xx), (Z14), H', ⟨Z56⟩, ⟨Z21⟩, ⟨Z3 HI0⟩, ⟨Z7⟩, ⟨Z8⟩⟩
 case rest =>
  clear HC4
  (try clear c2); (try clear p2); (try clear c4); (try clear c7)
  obtain ⟨kq, ck, rfl, HA, eS, ae, HI0, HK, HB⟩ := hcut
  cases kq with
  | zero => exact absurd HA.out (by simp [spec_l1Cur_pins.j0])
  | succ gw =>
   have H := HA.out
   clear HA
   simp only [spec_l1Cur_pins.j0] at H
   have H' := Aside0.mk H
   clear H
   go_wp2
   go_loopg [3, 5] gw (fun kq v3 v5 w' => ∃ (aj : List (S33)) (am : Int) (aX : Int) (aY : Int), v5 = .int .i64 am ∧ Aside0 (spec_l1Cur_pins.l0 kq aj ck am s0_0 aX aY = some (r1, r2, r3)) ∧ Aside0 (kq ≤ gw) ∧ Aside0 (Kd.R k33 33 w' w.heap.size (fun _ => True) v3 aj) ∧ Aside0 (IsS47 w0 w' g s0_0 aX aY) ∧ Aside0 (KeepBut w w' g none) ∧ Aside0 (Below w0.heap.size w0 w'))
   case atStart => exact ⟨(([] : List (S33))), (0), (rF), (rG), (Z14), H', ⟨Nat.le_refl _⟩, ⟨Z2 ae⟩, ⟨Z3 HI0⟩, ⟨Z7⟩, ⟨Z8⟩⟩
   case round =>
    clear H'
    obtain ⟨aj, am, aX, aY, rfl, HA, HK2, ae, HI0, HK, HB⟩ := hrel
    cases gk with
    | zero => exact absurd HA.out (by simp [spec_l1Cur_pins.l0])
    | succ k2 =>
     have H := HA.out
     clear HA
     simp only [spec_l1Cur_pins.l0] at H
     have HC8 := Aside0.mk H
     clear H
     go_upto_region 6 with (fail)
     go_cut [22] (fun yn wc => ∃ (kq : Nat) (nL : Bool), yn = .bool nL ∧ Aside0 (spec_l1Cur_pins.j2 kq aj ck am nL s0_0 aX aY = some (r1, r2, r3)) ∧ Aside0 (kq ≤ k2) ∧ Aside0 (Kd.R k33 33 wc w.heap.size (fun _ => True) u3 aj) ∧ Aside0 (IsS47 w0 wc g s0_0 aX aY) ∧ Aside0 (KeepBut w wc g none) ∧ Aside0 (Below w0.heap.size w0 wc))
     case first =>
      have H := HC8.out
      clear HC8
      by_cases c9 : (aj.length : Int) < ck
      ·rw [if_pos c9] at H
       have fT : decide ((aj.length : Int) < ck) = true := decide_eq_true c9
       clear c9
       (first | rw [fT] | (simp only [i64_w, i32_w]; rw [fT]) | skip)
       have H' := Aside0.mk H
       clear H
       obtain ⟨gi, gj, mr⟩ := Kd.R_slice ae.out
       subst mr
       go_wp2
       go_meet
       case rel => exact ⟨_, (decide (am < 300)), (Z14), H', ⟨by have := eS.out; have := HK2.out; first | omega | exact Nat.le_refl _⟩, ⟨Z2 ae⟩, ⟨Z3 HI0⟩, ⟨Z7⟩, ⟨Z8⟩⟩
      rw [if_neg c9] at H
      have fT : decide ((aj.length : Int) < ck) = false := decide_eq_false c9
      clear c9
      (first | rw [fT] | (simp only [i64_w, i32_w]; rw [fT]) | skip)
      have H' := Aside0.mk H
      clear H
      obtain ⟨xw, vo, om⟩ := Kd.R_slice ae.out
      subst om
      go_wp2
      go_meet
      case rel => exact ⟨_, (false), (Z14), H', ⟨by have := eS.out; have := HK2.out; first | omega | exact Nat.le_refl _⟩, ⟨Z2 ae⟩, ⟨Z3 HI0⟩, ⟨Z7⟩, ⟨Z8⟩⟩
     case rest =>
      clear HC8
      (try clear c9); (try clear fT)
      obtain ⟨kq, nL, rfl, HA, jA, ae, HI0, HK, HB⟩ := hcut
      cases kq with
      | zero => exact absurd HA.out (by simp [spec_l1Cur_pins.j2])
      | succ bU =>
       have H := HA.out
       clear HA
       simp only [spec_l1Cur_pins.j2] at H
       by_cases c12 : nL = true
       ·subst c12
        rw [if_pos rfl] at H
        replace H := Option.bind_eq_some_iff.mp H
        obtain ⟨⟨ao, az, aA, bO, bP⟩, pE, H⟩ := H
        (try dsimp only at H)
        have vU := Aside0.mk pE
        clear pE
        by_cases c14 : ck = 60
        ·rw [if_pos c14] at H
         have fh : (ck == 60) = true := beq_iff_eq.mpr c14
         have sq : (ck != 60) = false := bne_eq_false_iff_eq.mpr c14
         clear c14
         obtain ⟨fX, lD⟩ : ∃ y_ : List (S33), y_ = (([] : List (S33))) := ⟨_, rfl⟩
         replace H : (if fX.length + aj.length < 5864062014805 then ((some (fX ++ aj : List (S33))).bind fun er => ((some (([(⟨ao, wrap64 (6 * (Int.tmod am 60)), Int.tmod am 4⟩ : S33)] : List (S33)) : List (S33))).bind fun da => (if er.length + da.length < 5864062014805 then ((spec_cySorted.f bU (er ++ da)).bind fun du => (if du.2 = true then (spec_l1Cur_pins.l0 bU du.1 ck (wrap64 (am + 1)) s0_0 bO bP) else (spec_l1Cur_pins.l0 bU aj ck (wrap64 (am + 1)) s0_0 bO bP))) else (none)))) else (none)) = some (r1, r2, r3) := by first | (rw [lD]; with_reducible exact H) | (have H2_ := (Option.bind_some _ _).symm.trans H; rw [lD]; with_reducible exact H2_) | (have H2_ := (Option.bind_some _ _).symm.trans H; with_reducible exact H2_) | with_reducible exact H | (rw [lD]; exact H) | exact H
         have gf := Aside0.mk lD
         clear lD
         by_cases c15 : fX.length + aj.length < 5864062014805
         ·rw [if_pos c15] at H
          have iS := Aside0.mk c15
          clear c15
          obtain ⟨er, lE⟩ : ∃ y_ : List (S33), y_ = (fX ++ aj) := ⟨_, rfl⟩
          replace H : ((some (([(⟨ao, wrap64 (6 * (Int.tmod am 60)), Int.tmod am 4⟩ : S33)] : List (S33)) : List (S33))).bind fun da => (if er.length + da.length < 5864062014805 then ((spec_cySorted.f bU (er ++ da)).bind fun du => (if du.2 = true then (spec_l1Cur_pins.l0 bU du.1 ck (wrap64 (am + 1)) s0_0 bO bP) else (spec_l1Cur_pins.l0 bU aj ck (wrap64 (am + 1)) s0_0 bO bP))) else (none))) = some (r1, r2, r3) := by first | (rw [lE]; with_reducible exact H) | (have H2_ := (Option.bind_some _ _).symm.trans H; rw [lE]; with_reducible exact H2_) | (have H2_ := (Option.bind_some _ _).symm.trans H; with_reducible exact H2_) | with_reducible exact H | (rw [lE]; exact H) | exact H
          have iT := Aside0.mk lE
          clear lE
          obtain ⟨da, lF⟩ : ∃ y_ : List (S33), y_ = (([(⟨ao, wrap64 (6 * (Int.tmod am 60)), Int.tmod am 4⟩ : S33)] : List (S33))) := ⟨_, rfl⟩
          replace H : (if er.length + da.length < 5864062014805 then ((spec_cySorted.f bU (er ++ da)).bind fun du => (if du.2 = true then (spec_l1Cur_pins.l0 bU du.1 ck (wrap64 (am + 1)) s0_0 bO bP) else (spec_l1Cur_pins.l0 bU aj ck (wrap64 (am + 1)) s0_0 bO bP))) else (none)) = some (r1, r2, r3) := by first | (rw [lF]; with_reducible exact H) | (have H2_ := (Option.bind_some _ _).symm.trans H; rw [lF]; with_reducible exact H2_) | (have H2_ := (Option.bind_some _ _).symm.trans H; with_reducible exact H2_) | with_reducible exact H | (rw [lF]; exact H) | exact H
          have ei := Aside0.mk lF
          clear lF
          by_cases c16 : er.length + da.length < 5864062014805
          ·rw [if_pos c16] at H
           have tC := Aside0.mk c16
           clear c16
           obtain ⟨qy, lG⟩ : ∃ y_ : List (S33), y_ = (er ++ da) := ⟨_, rfl⟩
           replace H : ((spec_cySorted.f bU qy).bind fun du => (if du.2 = true then (spec_l1Cur_pins.l0 bU du.1 ck (wrap64 (am + 1)) s0_0 bO bP) else (spec_l1Cur_pins.l0 bU aj ck (wrap64 (am + 1)) s0_0 bO bP))) = some (r1, r2, r3) := by first | (rw [lG]; with_reducible exact H) | (have H2_ := (Option.bind_some _ _).symm.trans H; rw [lG]; with_reducible exact H2_) | (have H2_ := (Option.bind_some _ _).symm.trans H; with_reducible exact H2_) | with_reducible exact H | (rw [lG]; exact H) | exact H
           have tD := Aside0.mk lG
           clear lG
           replace H := Option.bind_eq_some_iff.mp H
           obtain ⟨⟨vp, t225⟩, xB, H⟩ := H
           (try dsimp only at H)
           have yP := Aside0.mk xB
           clear xB
           by_cases c18 : t225 = true
           ·subst c18
            rw [if_pos rfl] at H
            have H' := Aside0.mk H
            clear H
            try go_wp2_with (first | ((with_reducible refine gate_callee (f := 52) rfl ?_); refine gl_ 26 Tryd.func52 #[.pointer (some ⟨g, 0, none⟩)] ?_; (with_reducible refine (spec_l1Cur_pin.calls g s0_0 aX aY ao az aA bO bP w0 _ ?_ ?_ vU.out).mono ?_); exact (Z3 HI0); exact Z8; rintro e jO ⟨rfl, hi, hb, hk⟩; refine ⟨_, rfl, ?_⟩; refine k4_ (Kd.R_mono (Kd.R_keep (IsS47.apart (show IsS47 w0 _ g s0_0 aX aY from Z3 HI0) (Z2 ae) (by decide)) hk (fun _ h => h.2)) (fun _ h => h.1)) (KeepBut.trans (Z7) hk (.inl rfl)) (hb) (hi) ?_; clear ae HK HB HI0; intro ae HK HB HI0; (try clear hb hk hi)) | ((with_reducible refine gate_dst (N := 6) rfl ?_); refine bv_ 6 33 #[.int .i64 0, .int .i64 0, .int .i64 0] ?_; intro ab hg qS hbox hb; refine k9_ (Kd.R_below (Kd.R_elderB (Z2 ae) ab (Nat.le_of_eq hg.symm)) hb) (IsS47.below (Z3 HI0) hb) (KeepBut.trans (Z7) (KeepBut.of_below hb g none) (.inl rfl)) (below_step (Z8) hb) (hbox) ((Z73 : w.heap.size ≤ ab)) ((Nat.le_trans HW0.out (Z73 : w.heap.size ≤ ab) : w0.heap.size ≤ ab)) ((Z98 : g ≠ ab)) ((Z99 : ab ≠ g)) ?_; clear ae HI0 HK HB; intro ae HI0 HK HB aa mU mT dn d8; clear hb hbox hg; have hnb21 := d8.out; have hnc21 := dn.out; obtain ⟨hcz22_0, hcz22_1, hcz22_2, hfz22_0, hfz22_1, hfz22_2⟩ := bx3_ (w := qS) aa.out; obtain ⟨fF, fG, eo23⟩ := Kd.R_slice ae.out; subst eo23))
            have n0_ : Aside0 (Kd.R k33 33 (((((qS.setCell ⟨ab, 0, none⟩ (.int .i64 ao)).setCell ⟨ab, 1, none⟩ (.int .i64 az)).setCell ⟨ab, 2, none⟩ (.int .i64 aA)).setCell ⟨ab, 1, none⟩ (.int .i64 (wrap64 (6 * (Int.tmod am 60))))).setCell ⟨ab, 2, none⟩ (.int .i64 (Int.tmod am 4))) w.heap.size (fun k_ => k_ ≠ ab) (.slice fF aj.length fG) aj) := ⟨Z72⟩
            have n1_ : Aside0 ((((((qS.setCell ⟨ab, 0, none⟩ (.int .i64 ao)).setCell ⟨ab, 1, none⟩ (.int .i64 az)).setCell ⟨ab, 2, none⟩ (.int .i64 aA)).setCell ⟨ab, 1, none⟩ (.int .i64 (wrap64 (6 * (Int.tmod am 60))))).setCell ⟨ab, 2, none⟩ (.int .i64 (Int.tmod am 4))).heap[ab]? = some (.cells #[.int .i64 ao, .int .i64 (wrap64 (6 * (Int.tmod am 60))), .int .i64 (Int.tmod am 4)] 33 (0, 0))) := ⟨Z48⟩
            have n2_ : Aside0 (IsS47 w0 (((((qS.setCell ⟨ab, 0, none⟩ (.int .i64 ao)).setCell ⟨ab, 1, none⟩ (.int .i64 az)).setCell ⟨ab, 2, none⟩ (.int .i64 aA)).setCell ⟨ab, 1, none⟩ (.int .i64 (wrap64 (6 * (Int.tmod am 60))))).setCell ⟨ab, 2, none⟩ (.int .i64 (Int.tmod am 4))) g s0_0 bO bP) := ⟨Z9⟩
            have n3_ : Aside0 (KeepBut w (((((qS.setCell ⟨ab, 0, none⟩ (.int .i64 ao)).setCell ⟨ab, 1, none⟩ (.int .i64 az)).setCell ⟨ab, 2, none⟩ (.int .i64 aA)).setCell ⟨ab, 1, none⟩ (.int .i64 (wrap64 (6 * (Int.tmod am 60))))).setCell ⟨ab, 2, none⟩ (.int .i64 (Int.tmod am 4))) g none) := ⟨Z6⟩
            have n4_ : Aside0 (Below w0.heap.size w0 (((((qS.setCell ⟨ab, 0, none⟩ (.int .i64 ao)).setCell ⟨ab, 1, none⟩ (.int .i64 az)).setCell ⟨ab, 2, none⟩ (.int .i64 aA)).setCell ⟨ab, 1, none⟩ (.int .i64 (wrap64 (6 * (Int.tmod am 60))))).setCell ⟨ab, 2, none⟩ (.int .i64 (Int.tmod am 4)))) := ⟨Z10⟩
            (try clear ae)
            (try clear aa)
            (try clear HI0)
            (try clear HK)
            (try clear HB)
            generalize (((((qS.setCell ⟨ab, 0, none⟩ (.int .i64 ao)).setCell ⟨ab, 1, none⟩ (.int .i64 az)).setCell ⟨ab, 2, none⟩ (.int .i64 aA)).setCell ⟨ab, 1, none⟩ (.int .i64 (wrap64 (6 * (Int.tmod am 60))))).setCell ⟨ab, 2, none⟩ (.int .i64 (Int.tmod am 4))) = nZ at n0_ n1_ n2_ n3_ n4_ ⊢
            have ae := n0_
            have aa := n1_
            have HI0 := n2_
            have HK := n3_
            have HB := n4_
            clear n0_ n1_ n2_ n3_ n4_
            refine k5_ (Kd.R_drew ae.out) (blk_drew aa.out) (IsS47.drew HI0.out) (keep_drew HK.out) (below_drew1 HB.out) ?_
            clear ae aa HI0 HK HB
            intro ae aa HI0 HK HB
            refine start_ (n := 12) (S := fun w' => w'.cell? ⟨ab, 0, none⟩ = some (.int .i64 ao) ∧ w'.cell? ⟨ab, 1, none⟩ = some (.int .i64 (wrap64 (6 * (Int.tmod am 60)))) ∧ w'.cell? ⟨ab, 2, none⟩ = some (.int .i64 (Int.tmod am 4))) (ds := []) (M_ 0 12) (by kernel_rfl) rfl rfl ⟨(blk_cell aa.out 0).trans rfl, (blk_cell aa.out 1).trans rfl, (blk_cell aa.out 2).trans rfl⟩ (fun hHeld => ?_); refine with_tabW spec_l1Cur_pins.tab12 spec_l1Cur_pins.bits12 (fun HT_ HW_ => ?_)
            generalize nZ.drew = n5 at ae aa HI0 HK HB hHeld ⊢
            refine pu_ 1 38 (N_ 12 2) ?_
            refine tk3_ 3 40 (N_ 12 10) hHeld ?_
            refine join_ (σ := Value × Value × Value) 7 (M_ 5 7) (fun s_ => [(37, s_.1), (39, s_.2.1), (41, s_.2.2)]) (fun s_ w' => (w'.cell? ⟨ab, 0, none⟩ = some (.int .i64 ao) ∧ w'.cell? ⟨ab, 1, none⟩ = some (.int .i64 (wrap64 (6 * (Int.tmod am 60)))) ∧ w'.cell? ⟨ab, 2, none⟩ = some (.int .i64 (Int.tmod am 4))) ∧ (Kd.R k33 33 w' w.heap.size (fun k_ => some k_ ≠ (s_.2.2 : Value).ownBlock ∧ some k_ ≠ (.slice fF aj.length fG : Value).ownBlock ∧ k_ ≠ ab) s_.2.1 er) ∧ (Kd.R k33 33 w' w.heap.size (fun k_ => some k_ ≠ (s_.2.1 : Value).ownBlock ∧ some k_ ≠ (.slice fF aj.length fG : Value).ownBlock ∧ k_ ≠ ab) s_.2.2 da) ∧ (Kd.R k33 33 w' w.heap.size (fun k_ => some k_ ≠ (s_.2.1 : Value).ownBlock ∧ some k_ ≠ (s_.2.2 : Value).ownBlock ∧ k_ ≠ ab) (.slice fF aj.length fG) aj) ∧ (w'.heap[ab]? = some (.cells #[.int .i64 ao, .int .i64 (wrap64 (6 * (Int.tmod am 60))), .int .i64 (Int.tmod am 4)] 33 (0, 0))) ∧ (IsS47 w0 w' g s0_0 bO bP) ∧ (KeepBut w w' g none) ∧ (Below w0.heap.size w0 w')) ?_ ?_
            rotate_left
            ·intro hCont
             refine two_ (i := 0) (j := 4) (Ni := some 37) (Nj := some 41) (N_ 12 11) (N_ 12 26) rfl rfl rfl rfl (two_of HT_.out (by kernel_rfl)) (by decide) (by decide) (fun K hK => ?_) (fun K hK => ?_)
             ·skip
              refine Kd.R_lit_step k33 _ 33 ?hg (N := 37) ?hd (xs := ([] : List (S33))) (inner := []) (ok := fun _ => True) (okp := fun _ => True) ?hr ?hp (fun _ hk => hk) trivial (Below.refl _ _) (Nat.le_refl _) (by simp) ?_; (case hd => rfl); (case hg => rfl); (case hr => exact Z34); (case hp => exact (Reps.none _ _))
              intro eG wg ho27 hb hg_ hnew_
              clear hg_ hnew_
              (first | rw [← gf.out] at ho27 | (simp only [Int.reduceToNat] at ho27; rw [← gf.out] at ho27))
              have n0_ := Aside0.mk (Kd.R_elder' (Z2 ae) (Kd.R_base ho27) hb)
              have n1_ := Aside0.mk (Kd.R_lower (Kd.R_newB (Kd.R_new' ho27 (Yd_ ae)) (g := ab) (o := .cells #[.int .i64 ao, .int .i64 (wrap64 (6 * (Int.tmod am 60))), .int .i64 (Int.tmod am 4)] 33 (0, 0)) (Z5 aa)) (keep_size (w := w) (g := g) (row := none) (Z6)))
              have n2_ := Aside0.mk (IsS47.below (Z9) hb)
              have n3_ := Aside0.mk (Ye_ aa)
              have n4_ := Aside0.mk (KeepBut.trans (Z6) (KeepBut.of_below hb g none) (.inl rfl))
              have n5_ := Aside0.mk (below_step (Z10) hb)
              clear ae
              clear HI0
              clear aa
              clear HK
              clear HB
              have ae := n0_
              have aZ := n1_
              have HI0 := n2_
              have aa := n3_
              have HK := n4_
              have HB := n5_
              clear n0_ n1_ n2_ n3_ n4_ n5_
              clear hb ho27
              refine hK.out _ _ ⟨(blk_cell aa.out 0).trans rfl, (blk_cell aa.out 1).trans rfl, (blk_cell aa.out 2).trans rfl⟩ (fun hHeld => ?_)
              clear hK K
              refine norm_ (a' := ?_) ?_ ?_
              rotate_left
              ·show Act.put _ (some 37) _ = _
               simp only [Act.put, List.setIfInBounds_toArray, List.set_cons_zero, List.set_cons_succ, i64_w, i32_w]
               rfl
              refine two_ (i := 2) (j := 4) (Ni := some 39) (Nj := some 41) (M_ 4 8) (N_ 12 27) rfl rfl rfl rfl (two_of HT_.out (by kernel_rfl)) (by decide) (by decide) (fun K hK => ?_) (fun K hK => ?_)
              ·skip
               refine Kd.R_append_rows_step k33 w.heap.size (by rfl) (.tmp 37) (.tmp 38) 24 33 (.agg #[(.int .i64 0), (.int .i64 0), (.int .i64 0)]) 24 rfl Tryd.underlying24 info33 rfl (by decide) (by omega) eG fX aj _ _ _ (fun k_ => some k_ ≠ (.slice fF aj.length fG : Value).ownBlock ∧ k_ ≠ ab) (fun _ => False) rfl rfl ?aO ?aR (fun _ _ h => h) (fun _ h => h.elim) ?aF (Below.refl _ _) ?aS ?aL ?_
               (case aR => exact Z4 ae)
               (case aF => exact (fun k_ hk => ⟨Kd.fresh' (Yd_ ae) k_ hk, Kd.freshB (g := ab) (o := .cells #[.int .i64 ao, .int .i64 (wrap64 (6 * (Int.tmod am 60))), .int .i64 (Int.tmod am 4)] 33 (0, 0)) (Z5 aa) k_ hk⟩))
               (case aO => exact (Z70 aZ))
               (case aS => exact (keep_size (w := w) (g := g) (row := none) (Z6)))
               (case aL => exact Z82 iS)
               intro dC q0 ho hb hg hat
               rw [← iT.out] at ho
               have n0_ := Aside0.mk (Kd.R_after (ok := (fun k_ => k_ ≠ ab)) (Z2 ae) hg hat)
               have n1_ := Aside0.mk (IsS47.grown (Z9) hg (IsS47.own_ne HI0.out aZ.out (by decide)))
               have n2_ := Aside0.mk (blk_grown (g := ab) (o := .cells #[.int .i64 ao, .int .i64 (wrap64 (6 * (Int.tmod am 60))), .int .i64 (Int.tmod am 4)] 33 (0, 0)) (Z5 aa) hg (Kd.R_away aZ.out (fun _ hk => hk.2)))
               have n3_ := Aside0.mk (below_weaken (Z10) HL.out hb)
               have n4_ := Aside0.mk (KeepBut.trans (Z6) (KeepBut.of_grown hg g) (Kd.R_base2 aZ.out))
               have n5_ := Aside0.mk (ho)
               clear ae
               clear HI0
               clear aa
               clear HB
               clear HK
               clear aZ
               have ae := n0_
               have HI0 := n1_
               have aa := n2_
               have HB := n3_
               have HK := n4_
               have bi := n5_
               clear n0_ n1_ n2_ n3_ n4_ n5_
               clear ho hb hg hat
               refine hK.out _ _ ⟨(blk_cell aa.out 0).trans rfl, (blk_cell aa.out 1).trans rfl, (blk_cell aa.out 2).trans rfl⟩ (fun hHeld => ?_)
               clear hK K
               refine norm_ (a' := ?_) ?_ ?_
               rotate_left
               ·show Act.put _ (some 39) _ = _
                simp only [Act.put, List.setIfInBounds_toArray, List.set_cons_zero, List.set_cons_succ, i64_w, i32_w]
                rfl
               refine one_ (i := 4) (N := some 41) (M_ 5 7) rfl rfl (one_of HT_.out (by kernel_rfl)) (by decide) (fun K hK => ?_)
               refine Kd.R_lit_step k33 _ 33 ?hg (N := 41) ?hd (xs := ([(⟨ao, wrap64 (6 * (Int.tmod am 60)), Int.tmod am 4⟩ : S33)] : List (S33))) (inner := [.int .i64 ao, .int .i64 (wrap64 (6 * (Int.tmod am 60))), .int .i64 (Int.tmod am 4)]) (ok := fun _ => True) (okp := fun _ => True) ?hr ?hp (fun _ hk => hk) trivial (Below.refl _ _) (Nat.le_refl _) (by simp) ?_; (case hd => rfl); (case hg => rfl); (case hr => exact Z34); (case hp => exact (Reps.c3 (show Kd.M k33 _ _ _ (⟨ao, wrap64 (6 * (Int.tmod am 60)), Int.tmod am 4⟩ : S33) [.int .i64 ao, .int .i64 (wrap64 (6 * (Int.tmod am 60))), .int .i64 (Int.tmod am 4)] from (k33_mkM _ _ _ (⟨ao, wrap64 (6 * (Int.tmod am 60)), Int.tmod am 4⟩ : S33) )) (Reps.none _ _)))
               intro cw ye ho30 hb hg_ hnew_
               clear hg_ hnew_
               (first | rw [← ei.out] at ho30 | (simp only [Int.reduceToNat] at ho30; rw [← ei.out] at ho30))
               have n0_ := Aside0.mk (Kd.R_elder' (Z2 ae) (Kd.R_base ho30) hb)
               have n1_ := Aside0.mk (Kd.R_elder' (Z2 bi) (Kd.R_base ho30) hb)
               have n2_ := Aside0.mk (Kd.R_lower (Kd.R_newB (Kd.R_new' (Kd.R_new' ho30 (Yd_ ae)) (Yd_ bi)) (g := ab) (o := .cells #[.int .i64 ao, .int .i64 (wrap64 (6 * (Int.tmod am 60))), .int .i64 (Int.tmod am 4)] 33 (0, 0)) (Z5 aa)) (keep_size (w := w) (g := g) (row := none) (Z6)))
               have n3_ := Aside0.mk (IsS47.below (Z9) hb)
               have n4_ := Aside0.mk (Ye_ aa)
               have n5_ := Aside0.mk (KeepBut.trans (Z6) (KeepBut.of_below hb g none) (.inl rfl))
               have n6_ := Aside0.mk (below_step (Z10) hb)
               clear ae
               clear bi
               clear HI0
               clear aa
               clear HK
               clear HB
               have ae := n0_
               have bi := n1_
               have aJ := n2_
               have HI0 := n3_
               have aa := n4_
               have HK := n5_
               have HB := n6_
               clear n0_ n1_ n2_ n3_ n4_ n5_ n6_
               clear hb ho30
               refine hK.out _ _ ⟨(blk_cell aa.out 0).trans rfl, (blk_cell aa.out 1).trans rfl, (blk_cell aa.out 2).trans rfl⟩ (fun hHeld => ?_)
               clear hK K
               refine norm_ (a' := ?_) ?_ ?_
               rotate_left
               ·show Act.put _ (some 41) _ = _
                simp only [Act.put, List.setIfInBounds_toArray, List.set_cons_zero, List.set_cons_succ, i64_w, i32_w]
                rfl
               exact norm_ (Z33) (hCont (eG, dC, cw) _ ⟨hHeld, (Z20 bi), (Z59 aJ), (Z66 ae), (Z5 aa), (Z9), (Z6), (Z10)⟩)
              skip
              refine Kd.R_lit_step k33 _ 33 ?hg (N := 41) ?hd (xs := ([(⟨ao, wrap64 (6 * (Int.tmod am 60)), Int.tmod am 4⟩ : S33)] : List (S33))) (inner := [.int .i64 ao, .int .i64 (wrap64 (6 * (Int.tmod am 60))), .int .i64 (Int.tmod am 4)]) (ok := fun _ => True) (okp := fun _ => True) ?hr ?hp (fun _ hk => hk) trivial (Below.refl _ _) (Nat.le_refl _) (by simp) ?_; (case hd => rfl); (case hg => rfl); (case hr => exact Z34); (case hp => exact (Reps.c3 (show Kd.M k33 _ _ _ (⟨ao, wrap64 (6 * (Int.tmod am 60)), Int.tmod am 4⟩ : S33) [.int .i64 ao, .int .i64 (wrap64 (6 * (Int.tmod am 60))), .int .i64 (Int.tmod am 4)] from (k33_mkM _ _ _ (⟨ao, wrap64 (6 * (Int.tmod am 60)), Int.tmod am 4⟩ : S33) )) (Reps.none _ _)))
              intro cw q0 ho29 hb hg_ hnew_
              clear hg_ hnew_
              (first | rw [← ei.out] at ho29 | (simp only [Int.reduceToNat] at ho29; rw [← ei.out] at ho29))
              have n0_ := Aside0.mk (Kd.R_elder' (Z2 ae) (Kd.R_base ho29) hb)
              have n1_ := Aside0.mk (Kd.R_elder' (Z2 aZ) (Kd.R_base ho29) hb)
              have n2_ := Aside0.mk (Kd.R_lower (Kd.R_newB (Kd.R_new' (Kd.R_new' ho29 (Yd_ ae)) (Yd_ aZ)) (g := ab) (o := .cells #[.int .i64 ao, .int .i64 (wrap64 (6 * (Int.tmod am 60))), .int .i64 (Int.tmod am 4)] 33 (0, 0)) (Z5 aa)) (keep_size (w := w) (g := g) (row := none) (Z6)))
              have n3_ := Aside0.mk (IsS47.below (Z9) hb)
              have n4_ := Aside0.mk (Ye_ aa)
              have n5_ := Aside0.mk (KeepBut.trans (Z6) (KeepBut.of_below hb g none) (.inl rfl))
              have n6_ := Aside0.mk (below_step (Z10) hb)
              clear ae
              clear aZ
              clear HI0
              clear aa
              clear HK
              clear HB
              have ae := n0_
              have aZ := n1_
              have aJ := n2_
              have HI0 := n3_
              have aa := n4_
              have HK := n5_
              have HB := n6_
              clear n0_ n1_ n2_ n3_ n4_ n5_ n6_
              clear hb ho29
              refine hK.out _ _ ⟨(blk_cell aa.out 0).trans rfl, (blk_cell aa.out 1).trans rfl, (blk_cell aa.out 2).trans rfl⟩ (fun hHeld => ?_)
              clear hK K
              refine norm_ (a' := ?_) ?_ ?_
              rotate_left
              ·show Act.put _ (some 41) _ = _
               simp only [Act.put, List.setIfInBounds_toArray, List.set_cons_zero, List.set_cons_succ, i64_w, i32_w]
               rfl
              refine one_ (i := 2) (N := some 39) (M_ 5 7) rfl rfl (one_of HT_.out (by kernel_rfl)) (by decide) (fun K hK => ?_)
              refine Kd.R_append_rows_step k33 w.heap.size (by rfl) (.tmp 37) (.tmp 38) 24 33 (.agg #[(.int .i64 0), (.int .i64 0), (.int .i64 0)]) 24 rfl Tryd.underlying24 info33 rfl (by decide) (by omega) eG fX aj _ _ _ (fun k_ => some k_ ≠ (.slice fF aj.length fG : Value).ownBlock ∧ some k_ ≠ (cw : Value).ownBlock ∧ k_ ≠ ab) (fun _ => False) rfl rfl ?aO ?aR (fun _ _ h => h) (fun _ h => h.elim) ?aF (Below.refl _ _) ?aS ?aL ?_
              (case aR => exact Z4 ae)
              (case aF => exact (fun k_ hk => ⟨Kd.fresh' (Yd_ ae) k_ hk, Kd.fresh' (Yd_ aJ) k_ hk, Kd.freshB (g := ab) (o := .cells #[.int .i64 ao, .int .i64 (wrap64 (6 * (Int.tmod am 60))), .int .i64 (Int.tmod am 4)] 33 (0, 0)) (Z5 aa) k_ hk⟩))
              (case aO => exact (Z60 aZ))
              (case aS => exact (keep_size (w := w) (g := g) (row := none) (Z6)))
              (case aL => exact Z82 iS)
              intro dC jB ho hb hg hat
              rw [← iT.out] at ho
              have n0_ := Aside0.mk (Kd.R_after (ok := (fun k_ => some k_ ≠ (cw : Value).ownBlock ∧ k_ ≠ ab)) (Z36 ae) hg hat)
              have n1_ := Aside0.mk (IsS47.grown (Z9) hg (IsS47.own_ne HI0.out aZ.out (by decide)))
              have n2_ := Aside0.mk (blk_grown (g := ab) (o := .cells #[.int .i64 ao, .int .i64 (wrap64 (6 * (Int.tmod am 60))), .int .i64 (Int.tmod am 4)] 33 (0, 0)) (Z5 aa) hg (Kd.R_away aZ.out (fun _ hk => hk.1.2)))
              have n3_ := Aside0.mk (Kd.R_after (ok := (fun k_ => some k_ ≠ (.slice fF aj.length fG : Value).ownBlock ∧ k_ ≠ ab)) (Z61 aJ) hg hat)
              have n4_ := Aside0.mk (below_weaken (Z10) HL.out hb)
              have n5_ := Aside0.mk (KeepBut.trans (Z6) (KeepBut.of_grown hg g) (Kd.R_base2 aZ.out))
              have n6_ := Aside0.mk (ho)
              clear ae
              clear HI0
              clear aa
              clear aJ
              clear HB
              clear HK
              clear aZ
              have ae := n0_
              have HI0 := n1_
              have aa := n2_
              have aJ := n3_
              have HB := n4_
              have HK := n5_
              have bi := n6_
              clear n0_ n1_ n2_ n3_ n4_ n5_ n6_
              clear ho hb hg hat
              refine hK.out _ _ ⟨(blk_cell aa.out 0).trans rfl, (blk_cell aa.out 1).trans rfl, (blk_cell aa.out 2).trans rfl⟩ (fun hHeld => ?_)
              clear hK K
              refine norm_ (a' := ?_) ?_ ?_
              rotate_left
              ·show Act.put _ (some 39) _ = _
               simp only [Act.put, List.setIfInBounds_toArray, List.set_cons_zero, List.set_cons_succ, i64_w, i32_w]
               rfl
              exact norm_ (Z33) (hCont (eG, dC, cw) _ ⟨hHeld, (Z28 bi), (Z20 aJ), (Z20 ae), (Z5 aa), (Z9), (Z6), (Z10)⟩)
             skip
             refine Kd.R_lit_step k33 _ 33 ?hg (N := 41) ?hd (xs := ([(⟨ao, wrap64 (6 * (Int.tmod am 60)), Int.tmod am 4⟩ : S33)] : List (S33))) (inner := [.int .i64 ao, .int .i64 (wrap64 (6 * (Int.tmod am 60))), .int .i64 (Int.tmod am 4)]) (ok := fun _ => True) (okp := fun _ => True) ?hr ?hp (fun _ hk => hk) trivial (Below.refl _ _) (Nat.le_refl _) (by simp) ?_; (case hd => rfl); (case hg => rfl); (case hr => exact Z34); (case hp => exact (Reps.c3 (show Kd.M k33 _ _ _ (⟨ao, wrap64 (6 * (Int.tmod am 60)), Int.tmod am 4⟩ : S33) [.int .i64 ao, .int .i64 (wrap64 (6 * (Int.tmod am 60))), .int .i64 (Int.tmod am 4)] from (k33_mkM _ _ _ (⟨ao, wrap64 (6 * (Int.tmod am 60)), Int.tmod am 4⟩ : S33) )) (Reps.none _ _)))
             intro cw wg ho27 hb hg_ hnew_
             clear hg_ hnew_
             (first | rw [← ei.out] at ho27 | (simp only [Int.reduceToNat] at ho27; rw [← ei.out] at ho27))
             have n0_ := Aside0.mk (Kd.R_elder' (Z2 ae) (Kd.R_base ho27) hb)
             have n1_ := Aside0.mk (Kd.R_lower (Kd.R_newB (Kd.R_new' ho27 (Yd_ ae)) (g := ab) (o := .cells #[.int .i64 ao, .int .i64 (wrap64 (6 * (Int.tmod am 60))), .int .i64 (Int.tmod am 4)] 33 (0, 0)) (Z5 aa)) (keep_size (w := w) (g := g) (row := none) (Z6)))
             have n2_ := Aside0.mk (IsS47.below (Z9) hb)
             have n3_ := Aside0.mk (Ye_ aa)
             have n4_ := Aside0.mk (KeepBut.trans (Z6) (KeepBut.of_below hb g none) (.inl rfl))
             have n5_ := Aside0.mk (below_step (Z10) hb)
             clear ae
             clear HI0
             clear aa
             clear HK
             clear HB
             have ae := n0_
             have aJ := n1_
             have HI0 := n2_
             have aa := n3_
             have HK := n4_
             have HB := n5_
             clear n0_ n1_ n2_ n3_ n4_ n5_
             clear hb ho27
             refine hK.out _ _ ⟨(blk_cell aa.out 0).trans rfl, (blk_cell aa.out 1).trans rfl, (blk_cell aa.out 2).trans rfl⟩ (fun hHeld => ?_)
             clear hK K
             refine norm_ (a' := ?_) ?_ ?_
             rotate_left
             ·show Act.put _ (some 41) _ = _
              simp only [Act.put, List.setIfInBounds_toArray, List.set_cons_zero, List.set_cons_succ, i64_w, i32_w]
              rfl
             refine one_ (i := 0) (N := some 37) (N_ 12 27) rfl rfl (one_of HT_.out (by kernel_rfl)) (by decide) (fun K hK => ?_)
             refine Kd.R_lit_step k33 _ 33 ?hg (N := 37) ?hd (xs := ([] : List (S33))) (inner := []) (ok := fun _ => True) (okp := fun _ => True) ?hr ?hp (fun _ hk => hk) trivial (Below.refl _ _) (Nat.le_refl _) (by simp) ?_; (case hd => rfl); (case hg => rfl); (case hr => exact Z34); (case hp => exact (Reps.none _ _))
             intro eG q0 ho29 hb hg_ hnew_
             clear hg_ hnew_
             (first | rw [← gf.out] at ho29 | (simp only [Int.reduceToNat] at ho29; rw [← gf.out] at ho29))
             have n0_ := Aside0.mk (Kd.R_elder' (Z2 ae) (Kd.R_base ho29) hb)
             have n1_ := Aside0.mk (Kd.R_elder' (Z2 aJ) (Kd.R_base ho29) hb)
             have n2_ := Aside0.mk (Kd.R_lower (Kd.R_newB (Kd.R_new' (Kd.R_new' ho29 (Yd_ ae)) (Yd_ aJ)) (g := ab) (o := .cells #[.int .i64 ao, .int .i64 (wrap64 (6 * (Int.tmod am 60))), .int .i64 (Int.tmod am 4)] 33 (0, 0)) (Z5 aa)) (keep_size (w := w) (g := g) (row := none) (Z6)))
             have n3_ := Aside0.mk (IsS47.below (Z9) hb)
             have n4_ := Aside0.mk (Ye_ aa)
             have n5_ := Aside0.mk (KeepBut.trans (Z6) (KeepBut.of_below hb g none) (.inl rfl))
             have n6_ := Aside0.mk (below_step (Z10) hb)
             clear ae
             clear aJ
             clear HI0
             clear aa
             clear HK
             clear HB
             have ae := n0_
             have aJ := n1_
             have aZ := n2_
             have HI0 := n3_
             have aa := n4_
             have HK := n5_
             have HB := n6_
             clear n0_ n1_ n2_ n3_ n4_ n5_ n6_
             clear hb ho29
             refine hK.out _ _ ⟨(blk_cell aa.out 0).trans rfl, (blk_cell aa.out 1).trans rfl, (blk_cell aa.out 2).trans rfl⟩ (fun hHeld => ?_)
             clear hK K
             refine norm_ (a' := ?_) ?_ ?_
             rotate_left
             ·show Act.put _ (some 37) _ = _
              simp only [Act.put, List.setIfInBounds_toArray, List.set_cons_zero, List.set_cons_succ, i64_w, i32_w]
              rfl
             refine one_ (i := 2) (N := some 39) (M_ 5 7) rfl rfl (one_of HT_.out (by kernel_rfl)) (by decide) (fun K hK => ?_)
             refine Kd.R_append_rows_step k33 w.heap.size (by rfl) (.tmp 37) (.tmp 38) 24 33 (.agg #[(.int .i64 0), (.int .i64 0), (.int .i64 0)]) 24 rfl Tryd.underlying24 info33 rfl (by decide) (by omega) eG fX aj _ _ _ (fun k_ => some k_ ≠ (.slice fF aj.length fG : Value).ownBlock ∧ some k_ ≠ (cw : Value).ownBlock ∧ k_ ≠ ab) (fun _ => False) rfl rfl ?aO ?aR (fun _ _ h => h) (fun _ h => h.elim) ?aF (Below.refl _ _) ?aS ?aL ?_
             (case aR => exact Z4 ae)
             (case aF => exact (fun k_ hk => ⟨Kd.fresh' (Yd_ ae) k_ hk, Kd.fresh' (Yd_ aJ) k_ hk, Kd.freshB (g := ab) (o := .cells #[.int .i64 ao, .int .i64 (wrap64 (6 * (Int.tmod am 60))), .int .i64 (Int.tmod am 4)] 33 (0, 0)) (Z5 aa) k_ hk⟩))
             (case aO => exact (Z62 aZ))
             (case aS => exact (keep_size (w := w) (g := g) (row := none) (Z6)))
             (case aL => exact Z82 iS)
             intro dC jB ho hb hg hat
             rw [← iT.out] at ho
             have n0_ := Aside0.mk (Kd.R_after (ok := (fun k_ => some k_ ≠ (cw : Value).ownBlock ∧ k_ ≠ ab)) (Z37 ae) hg hat)
             have n1_ := Aside0.mk (IsS47.grown (Z9) hg (IsS47.own_ne HI0.out aZ.out (by decide)))
             have n2_ := Aside0.mk (blk_grown (g := ab) (o := .cells #[.int .i64 ao, .int .i64 (wrap64 (6 * (Int.tmod am 60))), .int .i64 (Int.tmod am 4)] 33 (0, 0)) (Z5 aa) hg (Kd.R_away aZ.out (fun _ hk => hk.2)))
             have n3_ := Aside0.mk (Kd.R_after (ok := (fun k_ => some k_ ≠ (.slice fF aj.length fG : Value).ownBlock ∧ k_ ≠ ab)) (Z63 aJ) hg hat)
             have n4_ := Aside0.mk (below_weaken (Z10) HL.out hb)
             have n5_ := Aside0.mk (KeepBut.trans (Z6) (KeepBut.of_grown hg g) (Kd.R_base2 aZ.out))
             have n6_ := Aside0.mk (ho)
             clear ae
             clear HI0
             clear aa
             clear aJ
             clear HB
             clear HK
             clear aZ
             have ae := n0_
             have HI0 := n1_
             have aa := n2_
             have aJ := n3_
             have HB := n4_
             have HK := n5_
             have bi := n6_
             clear n0_ n1_ n2_ n3_ n4_ n5_ n6_
             clear ho hb hg hat
             refine hK.out _ _ ⟨(blk_cell aa.out 0).trans rfl, (blk_cell aa.out 1).trans rfl, (blk_cell aa.out 2).trans rfl⟩ (fun hHeld => ?_)
             clear hK K
             refine norm_ (a' := ?_) ?_ ?_
             rotate_left
             ·show Act.put _ (some 39) _ = _
              simp only [Act.put, List.setIfInBounds_toArray, List.set_cons_zero, List.set_cons_succ, i64_w, i32_w]
              rfl
             exact norm_ (Z33) (hCont (eG, dC, cw) _ ⟨hHeld, (Z28 bi), (Z20 aJ), (Z20 ae), (Z5 aa), (Z9), (Z6), (Z10)⟩)
            rintro ⟨eG, dC, cw⟩ oE ⟨hS_, h0_, h1_, h2_, h3_, h4_, h5_, h6_⟩
            have n0_ : Aside0 (Kd.R k33 33 oE w.heap.size (fun k_ => some k_ ≠ (cw : Value).ownBlock ∧ some k_ ≠ (.slice fF aj.length fG : Value).ownBlock ∧ k_ ≠ ab) dC er) := ⟨h0_⟩
            have n1_ : Aside0 (Kd.R k33 33 oE w.heap.size (fun k_ => some k_ ≠ (dC : Value).ownBlock ∧ some k_ ≠ (.slice fF aj.length fG : Value).ownBlock ∧ k_ ≠ ab) cw da) := ⟨h1_⟩
            have n2_ : Aside0 (Kd.R k33 33 oE w.heap.size (fun k_ => some k_ ≠ (dC : Value).ownBlock ∧ some k_ ≠ (cw : Value).ownBlock ∧ k_ ≠ ab) (.slice fF aj.length fG) aj) := ⟨h2_⟩
            have n3_ : Aside0 (oE.heap[ab]? = some (.cells #[.int .i64 ao, .int .i64 (wrap64 (6 * (Int.tmod am 60))), .int .i64 (Int.tmod am 4)] 33 (0, 0))) := ⟨h3_⟩
            have n4_ : Aside0 (IsS47 w0 oE g s0_0 bO bP) := ⟨h4_⟩
            have n5_ : Aside0 (KeepBut w oE g none) := ⟨h5_⟩
            have n6_ : Aside0 (Below w0.heap.size w0 oE) := ⟨h6_⟩
            clear ae
            clear aa
            clear HI0
            clear HK
            clear HB
            clear h0_ h1_ h2_ h3_ h4_ h5_ h6_
            have bi := n0_
            have aJ := n1_
            have ae := n2_
            have aa := n3_
            have HI0 := n4_
            have HK := n5_
            have HB := n6_
            clear n0_ n1_ n2_ n3_ n4_ n5_ n6_
            have hHeld : oE.cell? ⟨ab, 0, none⟩ = some (.int .i64 ao) ∧ oE.cell? ⟨ab, 1, none⟩ = some (.int .i64 (wrap64 (6 * (Int.tmod am 60)))) ∧ oE.cell? ⟨ab, 2, none⟩ = some (.int .i64 (Int.tmod am 4)) := hS_
            obtain ⟨xC, xD, xE⟩ := Kd.R_slice aJ.out
            (first | subst xE | (injection xE with f1_ f2_ f3_; have f4_ := f1_.symm; have f5_ := f3_.symm; clear f1_ f2_ f3_; subst f4_; subst f5_))
            refine norm_ (a' := ?_) ?_ ?_
            rotate_left
            ·simp only [putAll, Act.put, List.setIfInBounds_toArray, List.set_cons_zero, List.set_cons_succ]
             rfl
            refine one_ (i := 5) (N := some 42) (M_ 6 6) rfl rfl (one_of HT_.out (by kernel_rfl)) (by decide) (fun K hK => ?_)
            refine Kd.R_append_rows_step k33 w.heap.size (by rfl) (.tmp 39) (.tmp 41) 24 33 (.agg #[(.int .i64 0), (.int .i64 0), (.int .i64 0)]) 24 rfl Tryd.underlying24 info33 rfl (by decide) (by omega) dC er da _ _ _ (fun k_ => some k_ ≠ (.slice fF aj.length fG : Value).ownBlock ∧ some k_ ≠ (.slice xC da.length xD : Value).ownBlock ∧ k_ ≠ ab) (fun _ => False) rfl rfl ?aO ?aR (fun _ _ h => h) (fun _ h => h.elim) ?aF (Below.refl _ _) ?aS ?aL ?_
            (case aR => exact Z4 aJ)
            (case aF => exact (fun k_ hk => ⟨Kd.fresh' (Yd_ ae) k_ hk, Kd.fresh' (Yd_ aJ) k_ hk, Kd.freshB (g := ab) (o := .cells #[.int .i64 ao, .int .i64 (wrap64 (6 * (Int.tmod am 60))), .int .i64 (Int.tmod am 4)] 33 (0, 0)) (Z5 aa) k_ hk⟩))
            (case aO => exact (Z28 bi))
            (case aS => exact (keep_size (w := w) (g := g) (row := none) (Z6)))
            (case aL => exact Z82 tC)
            intro v222 pH ho hb hg hat
            rw [← tD.out] at ho
            have n0_ := Aside0.mk (Kd.R_after (ok := (fun k_ => some k_ ≠ (.slice xC da.length xD : Value).ownBlock ∧ k_ ≠ ab)) (Z29 ae) hg hat)
            have n1_ := Aside0.mk (IsS47.grown (Z9) hg (IsS47.own_ne HI0.out bi.out (by decide)))
            have n2_ := Aside0.mk (blk_grown (g := ab) (o := .cells #[.int .i64 ao, .int .i64 (wrap64 (6 * (Int.tmod am 60))), .int .i64 (Int.tmod am 4)] 33 (0, 0)) (Z5 aa) hg (Kd.R_away bi.out (fun _ hk => hk.2.2)))
            have n3_ := Aside0.mk (Kd.R_after (ok := (fun k_ => some k_ ≠ (.slice fF aj.length fG : Value).ownBlock ∧ k_ ≠ ab)) (Z29 aJ) hg hat)
            have n4_ := Aside0.mk (below_weaken (Z10) HL.out hb)
            have n5_ := Aside0.mk (KeepBut.trans (Z6) (KeepBut.of_grown hg g) (Kd.R_base2 bi.out))
            have n6_ := Aside0.mk (ho)
            clear ae
            clear HI0
            clear aa
            clear aJ
            clear HB
            clear HK
            clear bi
            have ae := n0_
            have HI0 := n1_
            have aa := n2_
            have aJ := n3_
            have HB := n4_
            have HK := n5_
            have dc := n6_
            clear n0_ n1_ n2_ n3_ n4_ n5_ n6_
            clear ho hb hg hat
            obtain ⟨Ao34, co34, xF⟩ := Kd.R_slice dc.out
            (first | subst xF | (injection xF with f1_ f2_ f3_; have f4_ := f1_.symm; have f5_ := f3_.symm; clear f1_ f2_ f3_; subst f4_; subst f5_))
            refine hK.out _ _ ⟨(blk_cell aa.out 0).trans rfl, (blk_cell aa.out 1).trans rfl, (blk_cell aa.out 2).trans rfl⟩ (fun hHeld => ?_)
            clear hK K
            refine norm_ (a' := ?_) ?_ ?_
            rotate_left
            ·show Act.put _ (some 42) _ = _
             simp only [Act.put, List.setIfInBounds_toArray, List.set_cons_zero, List.set_cons_succ, i64_w, i32_w]
             rfl
            refine one_ (i := 6) (N := some 43) (M_ 7 5) rfl rfl (one_of HT_.out (by kernel_rfl)) (by decide) (fun K hK => ?_)
            refine goes_ Tryd.func44 (by kernel_rfl) rfl #[.slice Ao34 qy.length co34] (by rfl) rfl rfl (Z27) ?_
            with_reducible refine (spec_cySorted.calls bU _ _ qy vp true _ ?side1 ?side2 yP.out).mono ?_
            (case side1 => exact Z4 dc)
            (case side2 => exact (Kd.R_reads' dc.out).2.1)
            rintro e w35 ⟨v226, rfl, ho0, hb⟩
            refine ⟨_, rfl, ?_⟩
            have n0_ := Aside0.mk (Yb_ ae)
            have n1_ := Aside0.mk (Yb_ aJ)
            have n2_ := Aside0.mk (Yb_ dc)
            have n3_ := Aside0.mk (Kd.R_lower (Kd.R_newB (Kd.R_new' (Kd.R_new' (Kd.R_new' ho0 (Yd_ ae)) (Yd_ aJ)) (Yd_ dc)) (g := ab) (o := .cells #[.int .i64 ao, .int .i64 (wrap64 (6 * (Int.tmod am 60))), .int .i64 (Int.tmod am 4)] 33 (0, 0)) (Z5 aa)) (keep_size (w := w) (g := g) (row := none) (Z6)))
            have n4_ := Aside0.mk (IsS47.below (Z9) hb)
            have n5_ := Aside0.mk (Ye_ aa)
            have n6_ := Aside0.mk (KeepBut.trans (Z6) (KeepBut.of_below hb g none) (.inl rfl))
            have n7_ := Aside0.mk (below_step (Z10) hb)
            clear ae
            clear aJ
            clear dc
            clear HI0
            clear aa
            clear HK
            clear HB
            have ae := n0_
            have aJ := n1_
            have dc := n2_
            have tE := n3_
            have HI0 := n4_
            have aa := n5_
            have HK := n6_
            have HB := n7_
            clear n0_ n1_ n2_ n3_ n4_ n5_ n6_ n7_
            (try clear hb)
            (try clear hb2)
            (try clear hk)
            (try clear hi)
            (try clear ho0)
            refine hK.out _ _ ⟨(blk_cell aa.out 0).trans rfl, (blk_cell aa.out 1).trans rfl, (blk_cell aa.out 2).trans rfl⟩ (fun hHeld => ?_)
            clear hK K
            refine norm_ (a' := ?_) ?_ ?_
            rotate_left
            ·show Act.put _ (some 43) _ = _
             simp only [Act.put, List.setIfInBounds_toArray, List.set_cons_zero, List.set_cons_succ, i64_w, i32_w]
             rfl
            refine pu_ 7 36 (M_ 8 4) ?_
            refine pu_ 8 44 (M_ 9 3) ?_
            refine pu_ 9 45 (M_ 10 2) ?_
            refine pu_ 10 7 (M_ 11 1) ?_
            refine pu_ 11 8 (M_ 12 0) ?_
            refine done_ (done_of HT_.out (by kernel_rfl)) ?_
            try go_wp2
            go_roundg bU
            case measure => have := eS.out; have := HK2.out; have := jA.out; omega
            case rel => exact ⟨(vp), (wrap64 (am + 1)), (bO), (bP), (Z14), H', ⟨Z106⟩, ⟨Z26 tE⟩, ⟨Z9⟩, ⟨Z6⟩, ⟨Z10⟩⟩
           replace c18 := Bool.eq_false_iff.mpr c18
           subst c18
           rw [if_neg (show ¬ (false = true) by decide)] at H
           have H' := Aside0.mk H
           clear H
           try go_wp2_with (first | ((with_reducible refine gate_callee (f := 52) rfl ?_); refine gl_ 26 Tryd.func52 #[.pointer (some ⟨g, 0, none⟩)] ?_; (with_reducible refine (spec_l1Cur_pin.calls g s0_0 aX aY ao az aA bO bP w0 _ ?_ ?_ vU.out).mono ?_); exact (Z3 HI0); exact Z8; rintro e yA ⟨rfl, hi, hb, hk⟩; refine ⟨_, rfl, ?_⟩; refine k4_ (Kd.R_mono (Kd.R_keep (IsS47.apart (show IsS47 w0 _ g s0_0 aX aY from Z3 HI0) (Z2 ae) (by decide)) hk (fun _ h => h.2)) (fun _ h => h.1)) (KeepBut.trans (Z7) hk (.inl rfl)) (hb) (hi) ?_; clear ae HK HB HI0; intro ae HK HB HI0; (try clear hb hk hi)) | ((with_reducible refine gate_dst (N := 6) rfl ?_); refine bv_ 6 33 #[.int .i64 0, .int .i64 0, .int .i64 0] ?_; intro ab hg vq hbox hb; refine k9_ (Kd.R_below (Kd.R_elderB (Z2 ae) ab (Nat.le_of_eq hg.symm)) hb) (IsS47.below (Z3 HI0) hb) (KeepBut.trans (Z7) (KeepBut.of_below hb g none) (.inl rfl)) (below_step (Z8) hb) (hbox) ((Z73 : w.heap.size ≤ ab)) ((Nat.le_trans HW0.out (Z73 : w.heap.size ≤ ab) : w0.heap.size ≤ ab)) ((Z98 : g ≠ ab)) ((Z99 : ab ≠ g)) ?_; clear ae HI0 HK HB; intro ae HI0 HK HB aa mU mT dn d8; clear hb hbox hg; have hnb38 := d8.out; have hnc38 := dn.out; obtain ⟨hcz39_0, hcz39_1, hcz39_2, hfz39_0, hfz39_1, hfz39_2⟩ := bx3_ (w := vq) aa.out; obtain ⟨fH, fI, eo40⟩ := Kd.R_slice ae.out; subst eo40))
           have n0_ : Aside0 (Kd.R k33 33 (((((vq.setCell ⟨ab, 0, none⟩ (.int .i64 ao)).setCell ⟨ab, 1, none⟩ (.int .i64 az)).setCell ⟨ab, 2, none⟩ (.int .i64 aA)).setCell ⟨ab, 1, none⟩ (.int .i64 (wrap64 (6 * (Int.tmod am 60))))).setCell ⟨ab, 2, none⟩ (.int .i64 (Int.tmod am 4))) w.heap.size (fun k_ => k_ ≠ ab) (.slice fH aj.length fI) aj) := ⟨Z72⟩
           have n1_ : Aside0 ((((((vq.setCell ⟨ab, 0, none⟩ (.int .i64 ao)).setCell ⟨ab, 1, none⟩ (.int .i64 az)).setCell ⟨ab, 2, none⟩ (.int .i64 aA)).setCell ⟨ab, 1, none⟩ (.int .i64 (wrap64 (6 * (Int.tmod am 60))))).setCell ⟨ab, 2, none⟩ (.int .i64 (Int.tmod am 4))).heap[ab]? = some (.cells #[.int .i64 ao, .int .i64 (wrap64 (6 * (Int.tmod am 60))), .int .i64 (Int.tmod am 4)] 33 (0, 0))) := ⟨Z48⟩
           have n2_ : Aside0 (IsS47 w0 (((((vq.setCell ⟨ab, 0, none⟩ (.int .i64 ao)).setCell ⟨ab, 1, none⟩ (.int .i64 az)).setCell ⟨ab, 2, none⟩ (.int .i64 aA)).setCell ⟨ab, 1, none⟩ (.int .i64 (wrap64 (6 * (Int.tmod am 60))))).setCell ⟨ab, 2, none⟩ (.int .i64 (Int.tmod am 4))) g s0_0 bO bP) := ⟨Z9⟩
           have n3_ : Aside0 (KeepBut w (((((vq.setCell ⟨ab, 0, none⟩ (.int .i64 ao)).setCell ⟨ab, 1, none⟩ (.int .i64 az)).setCell ⟨ab, 2, none⟩ (.int .i64 aA)).setCell ⟨ab, 1, none⟩ (.int .i64 (wrap64 (6 * (Int.tmod am 60))))).setCell ⟨ab, 2, none⟩ (.int .i64 (Int.tmod am 4))) g none) := ⟨Z6⟩
           have n4_ : Aside0 (Below w0.heap.size w0 (((((vq.setCell ⟨ab, 0, none⟩ (.int .i64 ao)).setCell ⟨ab, 1, none⟩ (.int .i64 az)).setCell ⟨ab, 2, none⟩ (.int .i64 aA)).setCell ⟨ab, 1, none⟩ (.int .i64 (wrap64 (6 * (Int.tmod am 60))))).setCell ⟨ab, 2, none⟩ (.int .i64 (Int.tmod am 4)))) := ⟨Z10⟩
           (try clear ae)
           (try clear aa)
           (try clear HI0)
           (try clear HK)
           (try clear HB)
           generalize (((((vq.setCell ⟨ab, 0, none⟩ (.int .i64 ao)).setCell ⟨ab, 1, none⟩ (.int .i64 az)).setCell ⟨ab, 2, none⟩ (.int .i64 aA)).setCell ⟨ab, 1, none⟩ (.int .i64 (wrap64 (6 * (Int.tmod am 60))))).setCell ⟨ab, 2, none⟩ (.int .i64 (Int.tmod am 4))) = w41 at n0_ n1_ n2_ n3_ n4_ ⊢
           have ae := n0_
           have aa := n1_
           have HI0 := n2_
           have HK := n3_
           have HB := n4_
           clear n0_ n1_ n2_ n3_ n4_
           refine k5_ (Kd.R_drew ae.out) (blk_drew aa.out) (IsS47.drew HI0.out) (keep_drew HK.out) (below_drew1 HB.out) ?_
           clear ae aa HI0 HK HB
           intro ae aa HI0 HK HB
           refine start_ (n := 12) (S := fun w' => w'.cell? ⟨ab, 0, none⟩ = some (.int .i64 ao) ∧ w'.cell? ⟨ab, 1, none⟩ = some (.int .i64 (wrap64 (6 * (Int.tmod am 60)))) ∧ w'.cell? ⟨ab, 2, none⟩ = some (.int .i64 (Int.tmod am 4))) (ds := []) (M_ 0 12) (by kernel_rfl) rfl rfl ⟨(blk_cell aa.out 0).trans rfl, (blk_cell aa.out 1).trans rfl, (blk_cell aa.out 2).trans rfl⟩ (fun hHeld => ?_); refine with_tabW spec_l1Cur_pins.tab12 spec_l1Cur_pins.bits12 (fun HT_ HW_ => ?_)
           generalize w41.drew = w42 at ae aa HI0 HK HB hHeld ⊢
           refine pu_ 1 38 (N_ 12 2) ?_
           refine tk3_ 3 40 (N_ 12 10) hHeld ?_
           refine join_ (σ := Value × Value × Value) 7 (M_ 5 7) (fun s_ => [(37, s_.1), (39, s_.2.1), (41, s_.2.2)]) (fun s_ w' => (w'.cell? ⟨ab, 0, none⟩ = some (.int .i64 ao) ∧ w'.cell? ⟨ab, 1, none⟩ = some (.int .i64 (wrap64 (6 * (Int.tmod am 60)))) ∧ w'.cell? ⟨ab, 2, none⟩ = some (.int .i64 (Int.tmod am 4))) ∧ (Kd.R k33 33 w' w.heap.size (fun k_ => some k_ ≠ (s_.2.2 : Value).ownBlock ∧ some k_ ≠ (.slice fH aj.length fI : Value).ownBlock ∧ k_ ≠ ab) s_.2.1 er) ∧ (Kd.R k33 33 w' w.heap.size (fun k_ => some k_ ≠ (s_.2.1 : Value).ownBlock ∧ some k_ ≠ (.slice fH aj.length fI : Value).ownBlock ∧ k_ ≠ ab) s_.2.2 da) ∧ (Kd.R k33 33 w' w.heap.size (fun k_ => some k_ ≠ (s_.2.1 : Value).ownBlock ∧ some k_ ≠ (s_.2.2 : Value).ownBlock ∧ k_ ≠ ab) (.slice fH aj.length fI) aj) ∧ (w'.heap[ab]? = some (.cells #[.int .i64 ao, .int .i64 (wrap64 (6 * (Int.tmod am 60))), .int .i64 (Int.tmod am 4)] 33 (0, 0))) ∧ (IsS47 w0 w' g s0_0 bO bP) ∧ (KeepBut w w' g none) ∧ (Below w0.heap.size w0 w')) ?_ ?_
           rotate_left
           ·intro hCont
            refine two_ (i := 0) (j := 4) (Ni := some 37) (Nj := some 41) (N_ 12 11) (N_ 12 26) rfl rfl rfl rfl (two_of HT_.out (by kernel_rfl)) (by decide) (by decide) (fun K hK => ?_) (fun K hK => ?_)
            ·skip
             refine Kd.R_lit_step k33 _ 33 ?hg (N := 37) ?hd (xs := ([] : List (S33))) (inner := []) (ok := fun _ => True) (okp := fun _ => True) ?hr ?hp (fun _ hk => hk) trivial (Below.refl _ _) (Nat.le_refl _) (by simp) ?_; (case hd => rfl); (case hg => rfl); (case hr => exact Z34); (case hp => exact (Reps.none _ _))
             intro eG w43 ho44 hb hg_ hnew_
             clear hg_ hnew_
             (first | rw [← gf.out] at ho44 | (simp only [Int.reduceToNat] at ho44; rw [← gf.out] at ho44))
             have n0_ := Aside0.mk (Kd.R_elder' (Z2 ae) (Kd.R_base ho44) hb)
             have n1_ := Aside0.mk (Kd.R_lower (Kd.R_newB (Kd.R_new' ho44 (Yd_ ae)) (g := ab) (o := .cells #[.int .i64 ao, .int .i64 (wrap64 (6 * (Int.tmod am 60))), .int .i64 (Int.tmod am 4)] 33 (0, 0)) (Z5 aa)) (keep_size (w := w) (g := g) (row := none) (Z6)))
             have n2_ := Aside0.mk (IsS47.below (Z9) hb)
             have n3_ := Aside0.mk (Ye_ aa)
             have n4_ := Aside0.mk (KeepBut.trans (Z6) (KeepBut.of_below hb g none) (.inl rfl))
             have n5_ := Aside0.mk (below_step (Z10) hb)
             clear ae
             clear HI0
             clear aa
             clear HK
             clear HB
             have ae := n0_
             have aZ := n1_
             have HI0 := n2_
             have aa := n3_
             have HK := n4_
             have HB := n5_
             clear n0_ n1_ n2_ n3_ n4_ n5_
             clear hb ho44
             refine hK.out _ _ ⟨(blk_cell aa.out 0).trans rfl, (blk_cell aa.out 1).trans rfl, (blk_cell aa.out 2).trans rfl⟩ (fun hHeld => ?_)
             clear hK K
             refine norm_ (a' := ?_) ?_ ?_
             rotate_left
             ·show Act.put _ (some 37) _ = _
              simp only [Act.put, List.setIfInBounds_toArray, List.set_cons_zero, List.set_cons_succ, i64_w, i32_w]
              rfl
             refine two_ (i := 2) (j := 4) (Ni := some 39) (Nj := some 41) (M_ 4 8) (N_ 12 27) rfl rfl rfl rfl (two_of HT_.out (by kernel_rfl)) (by decide) (by decide) (fun K hK => ?_) (fun K hK => ?_)
             ·skip
              refine Kd.R_append_rows_step k33 w.heap.size (by rfl) (.tmp 37) (.tmp 38) 24 33 (.agg #[(.int .i64 0), (.int .i64 0), (.int .i64 0)]) 24 rfl Tryd.underlying24 info33 rfl (by decide) (by omega) eG fX aj _ _ _ (fun k_ => some k_ ≠ (.slice fH aj.length fI : Value).ownBlock ∧ k_ ≠ ab) (fun _ => False) rfl rfl ?aO ?aR (fun _ _ h => h) (fun _ h => h.elim) ?aF (Below.refl _ _) ?aS ?aL ?_
              (case aR => exact Z4 ae)
              (case aF => exact (fun k_ hk => ⟨Kd.fresh' (Yd_ ae) k_ hk, Kd.freshB (g := ab) (o := .cells #[.int .i64 ao, .int .i64 (wrap64 (6 * (Int.tmod am 60))), .int .i64 (Int.tmod am 4)] 33 (0, 0)) (Z5 aa) k_ hk⟩))
              (case aO => exact (Z70 aZ))
              (case aS => exact (keep_size (w := w) (g := g) (row := none) (Z6)))
              (case aL => exact Z82 iS)
              intro dC yD ho hb hg hat
              rw [← iT.out] at ho
              have n0_ := Aside0.mk (Kd.R_after (ok := (fun k_ => k_ ≠ ab)) (Z2 ae) hg hat)
              have n1_ := Aside0.mk (IsS47.grown (Z9) hg (IsS47.own_ne HI0.out aZ.out (by decide)))
              have n2_ := Aside0.mk (blk_grown (g := ab) (o := .cells #[.int .i64 ao, .int .i64 (wrap64 (6 * (Int.tmod am 60))), .int .i64 (Int.tmod am 4)] 33 (0, 0)) (Z5 aa) hg (Kd.R_away aZ.out (fun _ hk => hk.2)))
              have n3_ := Aside0.mk (below_weaken (Z10) HL.out hb)
              have n4_ := Aside0.mk (KeepBut.trans (Z6) (KeepBut.of_grown hg g) (Kd.R_base2 aZ.out))
              have n5_ := Aside0.mk (ho)
              clear ae
              clear HI0
              clear aa
              clear HB
              clear HK
              clear aZ
              have ae := n0_
              have HI0 := n1_
              have aa := n2_
              have HB := n3_
              have HK := n4_
              have bi := n5_
              clear n0_ n1_ n2_ n3_ n4_ n5_
              clear ho hb hg hat
              refine hK.out _ _ ⟨(blk_cell aa.out 0).trans rfl, (blk_cell aa.out 1).trans rfl, (blk_cell aa.out 2).trans rfl⟩ (fun hHeld => ?_)
              clear hK K
              refine norm_ (a' := ?_) ?_ ?_
              rotate_left
              ·show Act.put _ (some 39) _ = _
               simp only [Act.put, List.setIfInBounds_toArray, List.set_cons_zero, List.set_cons_succ, i64_w, i32_w]
               rfl
              refine one_ (i := 4) (N := some 41) (M_ 5 7) rfl rfl (one_of HT_.out (by kernel_rfl)) (by decide) (fun K hK => ?_)
              refine Kd.R_lit_step k33 _ 33 ?hg (N := 41) ?hd (xs := ([(⟨ao, wrap64 (6 * (Int.tmod am 60)), Int.tmod am 4⟩ : S33)] : List (S33))) (inner := [.int .i64 ao, .int .i64 (wrap64 (6 * (Int.tmod am 60))), .int .i64 (Int.tmod am 4)]) (ok := fun _ => True) (okp := fun _ => True) ?hr ?hp (fun _ hk => hk) trivial (Below.refl _ _) (Nat.le_refl _) (by simp) ?_; (case hd => rfl); (case hg => rfl); (case hr => exact Z34); (case hp => exact (Reps.c3 (show Kd.M k33 _ _ _ (⟨ao, wrap64 (6 * (Int.tmod am 60)), Int.tmod am 4⟩ : S33) [.int .i64 ao, .int .i64 (wrap64 (6 * (Int.tmod am 60))), .int .i64 (Int.tmod am 4)] from (k33_mkM _ _ _ (⟨ao, wrap64 (6 * (Int.tmod am 60)), Int.tmod am 4⟩ : S33) )) (Reps.none _ _)))
              intro cw w46 ho47 hb hg_ hnew_
              clear hg_ hnew_
              (first | rw [← ei.out] at ho47 | (simp only [Int.reduceToNat] at ho47; rw [← ei.out] at ho47))
              have n0_ := Aside0.mk (Kd.R_elder' (Z2 ae) (Kd.R_base ho47) hb)
              have n1_ := Aside0.mk (Kd.R_elder' (Z2 bi) (Kd.R_base ho47) hb)
              have n2_ := Aside0.mk (Kd.R_lower (Kd.R_newB (Kd.R_new' (Kd.R_new' ho47 (Yd_ ae)) (Yd_ bi)) (g := ab) (o := .cells #[.int .i64 ao, .int .i64 (wrap64 (6 * (Int.tmod am 60))), .int .i64 (Int.tmod am 4)] 33 (0, 0)) (Z5 aa)) (keep_size (w := w) (g := g) (row := none) (Z6)))
              have n3_ := Aside0.mk (IsS47.below (Z9) hb)
              have n4_ := Aside0.mk (Ye_ aa)
              have n5_ := Aside0.mk (KeepBut.trans (Z6) (KeepBut.of_below hb g none) (.inl rfl))
              have n6_ := Aside0.mk (below_step (Z10) hb)
              clear ae
              clear bi
              clear HI0
              clear aa
              clear HK
              clear HB
              have ae := n0_
              have bi := n1_
              have aJ := n2_
              have HI0 := n3_
              have aa := n4_
              have HK := n5_
              have HB := n6_
              clear n0_ n1_ n2_ n3_ n4_ n5_ n6_
              clear hb ho47
              refine hK.out _ _ ⟨(blk_cell aa.out 0).trans rfl, (blk_cell aa.out 1).trans rfl, (blk_cell aa.out 2).trans rfl⟩ (fun hHeld => ?_)
              clear hK K
              refine norm_ (a' := ?_) ?_ ?_
              rotate_left
              ·show Act.put _ (some 41) _ = _
               simp only [Act.put, List.setIfInBounds_toArray, List.set_cons_zero, List.set_cons_succ, i64_w, i32_w]
               rfl
              exact norm_ (Z33) (hCont (eG, dC, cw) _ ⟨hHeld, (Z20 bi), (Z59 aJ), (Z66 ae), (Z5 aa), (Z9), (Z6), (Z10)⟩)
             skip
             refine Kd.R_lit_step k33 _ 33 ?hg (N := 41) ?hd (xs := ([(⟨ao, wrap64 (6 * (Int.tmod am 60)), Int.tmod am 4⟩ : S33)] : List (S33))) (inner := [.int .i64 ao, .int .i64 (wrap64 (6 * (Int.tmod am 60))), .int .i64 (Int.tmod am 4)]) (ok := fun _ => True) (okp := fun _ => True) ?hr ?hp (fun _ hk => hk) trivial (Below.refl _ _) (Nat.le_refl _) (by simp) ?_; (case hd => rfl); (case hg => rfl); (case hr => exact Z34); (case hp => exact (Reps.c3 (show Kd.M k33 _ _ _ (⟨ao, wrap64 (6 * (Int.tmod am 60)), Int.tmod am 4⟩ : S33) [.int .i64 ao, .int .i64 (wrap64 (6 * (Int.tmod am 60))), .int .i64 (Int.tmod am 4)] from (k33_mkM _ _ _ (⟨ao, wrap64 (6 * (Int.tmod am 60)), Int.tmod am 4⟩ : S33) )) (Reps.none _ _)))
             intro cw yD ho46 hb hg_ hnew_
             clear hg_ hnew_
             (first | rw [← ei.out] at ho46 | (simp only [Int.reduceToNat] at ho46; rw [← ei.out] at ho46))
             have n0_ := Aside0.mk (Kd.R_elder' (Z2 ae) (Kd.R_base ho46) hb)
             have n1_ := Aside0.mk (Kd.R_elder' (Z2 aZ) (Kd.R_base ho46) hb)
             have n2_ := Aside0.mk (Kd.R_lower (Kd.R_newB (Kd.R_new' (Kd.R_new' ho46 (Yd_ ae)) (Yd_ aZ)) (g := ab) (o := .cells #[.int .i64 ao, .int .i64 (wrap64 (6 * (Int.tmod am 60))), .int .i64 (Int.tmod am 4)] 33 (0, 0)) (Z5 aa)) (keep_size (w := w) (g := g) (row := none) (Z6)))
             have n3_ := Aside0.mk (IsS47.below (Z9) hb)
             have n4_ := Aside0.mk (Ye_ aa)
             have n5_ := Aside0.mk (KeepBut.trans (Z6) (KeepBut.of_below hb g none) (.inl rfl))
             have n6_ := Aside0.mk (below_step (Z10) hb)
             clear ae
             clear aZ
             clear HI0
             clear aa
             clear HK
             clear HB
             have ae := n0_
             have aZ := n1_
             have aJ := n2_
             have HI0 := n3_
             have aa := n4_
             have HK := n5_
             have HB := n6_
             clear n0_ n1_ n2_ n3_ n4_ n5_ n6_
             clear hb ho46
             refine hK.out _ _ ⟨(blk_cell aa.out 0).trans rfl, (blk_cell aa.out 1).trans rfl, (blk_cell aa.out 2).trans rfl⟩ (fun hHeld => ?_)
             clear hK K
             refine norm_ (a' := ?_) ?_ ?_
             rotate_left
             ·show Act.put _ (some 41) _ = _
              simp only [Act.put, List.setIfInBounds_toArray, List.set_cons_zero, List.set_cons_succ, i64_w, i32_w]
              rfl
             refine one_ (i := 2) (N := some 39) (M_ 5 7) rfl rfl (one_of HT_.out (by kernel_rfl)) (by decide) (fun K hK => ?_)
             refine Kd.R_append_rows_step k33 w.heap.size (by rfl) (.tmp 37) (.tmp 38) 24 33 (.agg #[(.int .i64 0), (.int .i64 0), (.int .i64 0)]) 24 rfl Tryd.underlying24 info33 rfl (by decide) (by omega) eG fX aj _ _ _ (fun k_ => some k_ ≠ (.slice fH aj.length fI : Value).ownBlock ∧ some k_ ≠ (cw : Value).ownBlock ∧ k_ ≠ ab) (fun _ => False) rfl rfl ?aO ?aR (fun _ _ h => h) (fun _ h => h.elim) ?aF (Below.refl _ _) ?aS ?aL ?_
             (case aR => exact Z4 ae)
             (case aF => exact (fun k_ hk => ⟨Kd.fresh' (Yd_ ae) k_ hk, Kd.fresh' (Yd_ aJ) k_ hk, Kd.freshB (g := ab) (o := .cells #[.int .i64 ao, .int .i64 (wrap64 (6 * (Int.tmod am 60))), .int .i64 (Int.tmod am 4)] 33 (0, 0)) (Z5 aa) k_ hk⟩))
             (case aO => exact (Z60 aZ))
             (case aS => exact (keep_size (w := w) (g := g) (row := none) (Z6)))
             (case aL => exact Z82 iS)
             intro dC w47 ho hb hg hat
             rw [← iT.out] at ho
             have n0_ := Aside0.mk (Kd.R_after (ok := (fun k_ => some k_ ≠ (cw : Value).ownBlock ∧ k_ ≠ ab)) (Z36 ae) hg hat)
             have n1_ := Aside0.mk (IsS47.grown (Z9) hg (IsS47.own_ne HI0.out aZ.out (by decide)))
             have n2_ := Aside0.mk (blk_grown (g := ab) (o := .cells #[.int .i64 ao, .int .i64 (wrap64 (6 * (Int.tmod am 60))), .int .i64 (Int.tmod am 4)] 33 (0, 0)) (Z5 aa) hg (Kd.R_away aZ.out (fun _ hk => hk.1.2)))
             have n3_ := Aside0.mk (Kd.R_after (ok := (fun k_ => some k_ ≠ (.slice fH aj.length fI : Value).ownBlock ∧ k_ ≠ ab)) (Z61 aJ) hg hat)
             have n4_ := Aside0.mk (below_weaken (Z10) HL.out hb)
             have n5_ := Aside0.mk (KeepBut.trans (Z6) (KeepBut.of_grown hg g) (Kd.R_base2 aZ.out))
             have n6_ := Aside0.mk (ho)
             clear ae
             clear HI0
             clear aa
             clear aJ
             clear HB
             clear HK
             clear aZ
             have ae := n0_
             have HI0 := n1_
             have aa := n2_
             have aJ := n3_
             have HB := n4_
             have HK := n5_
             have bi := n6_
             clear n0_ n1_ n2_ n3_ n4_ n5_ n6_
             clear ho hb hg hat
             refine hK.out _ _ ⟨(blk_cell aa.out 0).trans rfl, (blk_cell aa.out 1).trans rfl, (blk_cell aa.out 2).trans rfl⟩ (fun hHeld => ?_)
             clear hK K
             refine norm_ (a' := ?_) ?_ ?_
             rotate_left
             ·show Act.put _ (some 39) _ = _
              simp only [Act.put, List.setIfInBounds_toArray, List.set_cons_zero, List.set_cons_succ, i64_w, i32_w]
              rfl
             exact norm_ (Z33) (hCont (eG, dC, cw) _ ⟨hHeld, (Z28 bi), (Z20 aJ), (Z20 ae), (Z5 aa), (Z9), (Z6), (Z10)⟩)
            skip
            refine Kd.R_lit_step k33 _ 33 ?hg (N := 41) ?hd (xs := ([(⟨ao, wrap64 (6 * (Int.tmod am 60)), Int.tmod am 4⟩ : S33)] : List (S33))) (inner := [.int .i64 ao, .int .i64 (wrap64 (6 * (Int.tmod am 60))), .int .i64 (Int.tmod am 4)]) (ok := fun _ => True) (okp := fun _ => True) ?hr ?hp (fun _ hk => hk) trivial (Below.refl _ _) (Nat.le_refl _) (by simp) ?_; (case hd => rfl); (case hg => rfl); (case hr => exact Z34); (case hp => exact (Reps.c3 (show Kd.M k33 _ _ _ (⟨ao, wrap64 (6 * (Int.tmod am 60)), Int.tmod am 4⟩ : S33) [.int .i64 ao, .int .i64 (wrap64 (6 * (Int.tmod am 60))), .int .i64 (Int.tmod am 4)] from (k33_mkM _ _ _ (⟨ao, wrap64 (6 * (Int.tmod am 60)), Int.tmod am 4⟩ : S33) )) (Reps.none _ _)))
            intro cw w43 ho44 hb hg_ hnew_
            clear hg_ hnew_
            (first | rw [← ei.out] at ho44 | (simp only [Int.reduceToNat] at ho44; rw [← ei.out] at ho44))
            have n0_ := Aside0.mk (Kd.R_elder' (Z2 ae) (Kd.R_base ho44) hb)
            have n1_ := Aside0.mk (Kd.R_lower (Kd.R_newB (Kd.R_new' ho44 (Yd_ ae)) (g := ab) (o := .cells #[.int .i64 ao, .int .i64 (wrap64 (6 * (Int.tmod am 60))), .int .i64 (Int.tmod am 4)] 33 (0, 0)) (Z5 aa)) (keep_size (w := w) (g := g) (row := none) (Z6)))
            have n2_ := Aside0.mk (IsS47.below (Z9) hb)
            have n3_ := Aside0.mk (Ye_ aa)
            have n4_ := Aside0.mk (KeepBut.trans (Z6) (KeepBut.of_below hb g none) (.inl rfl))
            have n5_ := Aside0.mk (below_step (Z10) hb)
            clear ae
            clear HI0
            clear aa
            clear HK
            clear HB
            have ae := n0_
            have aJ := n1_
            have HI0 := n2_
            have aa := n3_
            have HK := n4_
            have HB := n5_
            clear n0_ n1_ n2_ n3_ n4_ n5_
            clear hb ho44
            refine hK.out _ _ ⟨(blk_cell aa.out 0).trans rfl, (blk_cell aa.out 1).trans rfl, (blk_cell aa.out 2).trans rfl⟩ (fun hHeld => ?_)
            clear hK K
            refine norm_ (a' := ?_) ?_ ?_
            rotate_left
            ·show Act.put _ (some 41) _ = _
             simp only [Act.put, List.setIfInBounds_toArray, List.set_cons_zero, List.set_cons_succ, i64_w, i32_w]
             rfl
            refine one_ (i := 0) (N := some 37) (N_ 12 27) rfl rfl (one_of HT_.out (by kernel_rfl)) (by decide) (fun K hK => ?_)
            refine Kd.R_lit_step k33 _ 33 ?hg (N := 37) ?hd (xs := ([] : List (S33))) (inner := []) (ok := fun _ => True) (okp := fun _ => True) ?hr ?hp (fun _ hk => hk) trivial (Below.refl _ _) (Nat.le_refl _) (by simp) ?_; (case hd => rfl); (case hg => rfl); (case hr => exact Z34); (case hp => exact (Reps.none _ _))
            intro eG yD ho46 hb hg_ hnew_
            clear hg_ hnew_
            (first | rw [← gf.out] at ho46 | (simp only [Int.reduceToNat] at ho46; rw [← gf.out] at ho46))
            have n0_ := Aside0.mk (Kd.R_elder' (Z2 ae) (Kd.R_base ho46) hb)
            have n1_ := Aside0.mk (Kd.R_elder' (Z2 aJ) (Kd.R_base ho46) hb)
            have n2_ := Aside0.mk (Kd.R_lower (Kd.R_newB (Kd.R_new' (Kd.R_new' ho46 (Yd_ ae)) (Yd_ aJ)) (g := ab) (o := .cells #[.int .i64 ao, .int .i64 (wrap64 (6 * (Int.tmod am 60))), .int .i64 (Int.tmod am 4)] 33 (0, 0)) (Z5 aa)) (keep_size (w := w) (g := g) (row := none) (Z6)))
            have n3_ := Aside0.mk (IsS47.below (Z9) hb)
            have n4_ := Aside0.mk (Ye_ aa)
            have n5_ := Aside0.mk (KeepBut.trans (Z6) (KeepBut.of_below hb g none) (.inl rfl))
            have n6_ := Aside0.mk (below_step (Z10) hb)
            clear ae
            clear aJ
            clear HI0
            clear aa
            clear HK
            clear HB
            have ae := n0_
            have aJ := n1_
            have aZ := n2_
            have HI0 := n3_
            have aa := n4_
            have HK := n5_
            have HB := n6_
            clear n0_ n1_ n2_ n3_ n4_ n5_ n6_
            clear hb ho46
            refine hK.out _ _ ⟨(blk_cell aa.out 0).trans rfl, (blk_cell aa.out 1).trans rfl, (blk_cell aa.out 2).trans rfl⟩ (fun hHeld => ?_)
            clear hK K
            refine norm_ (a' := ?_) ?_ ?_
            rotate_left
            ·show Act.put _ (some 37) _ = _
             simp only [Act.put, List.setIfInBounds_toArray, List.set_cons_zero, List.set_cons_succ, i64_w, i32_w]
             rfl
            refine one_ (i := 2) (N := some 39) (M_ 5 7) rfl rfl (one_of HT_.out (by kernel_rfl)) (by decide) (fun K hK => ?_)
            refine Kd.R_append_rows_step k33 w.heap.size (by rfl) (.tmp 37) (.tmp 38) 24 33 (.agg #[(.int .i64 0), (.int .i64 0), (.int .i64 0)]) 24 rfl Tryd.underlying24 info33 rfl (by decide) (by omega) eG fX aj _ _ _ (fun k_ => some k_ ≠ (.slice fH aj.length fI : Value).ownBlock ∧ some k_ ≠ (cw : Value).ownBlock ∧ k_ ≠ ab) (fun _ => False) rfl rfl ?aO ?aR (fun _ _ h => h) (fun _ h => h.elim) ?aF (Below.refl _ _) ?aS ?aL ?_
            (case aR => exact Z4 ae)
            (case aF => exact (fun k_ hk => ⟨Kd.fresh' (Yd_ ae) k_ hk, Kd.fresh' (Yd_ aJ) k_ hk, Kd.freshB (g := ab) (o := .cells #[.int .i64 ao, .int .i64 (wrap64 (6 * (Int.tmod am 60))), .int .i64 (Int.tmod am 4)] 33 (0, 0)) (Z5 aa) k_ hk⟩))
            (case aO => exact (Z62 aZ))
            (case aS => exact (keep_size (w := w) (g := g) (row := none) (Z6)))
            (case aL => exact Z82 iS)
            intro dC w47 ho hb hg hat
            rw [← iT.out] at ho
            have n0_ := Aside0.mk (Kd.R_after (ok := (fun k_ => some k_ ≠ (cw : Value).ownBlock ∧ k_ ≠ ab)) (Z37 ae) hg hat)
            have n1_ := Aside0.mk (IsS47.grown (Z9) hg (IsS47.own_ne HI0.out aZ.out (by decide)))
            have n2_ := Aside0.mk (blk_grown (g := ab) (o := .cells #[.int .i64 ao, .int .i64 (wrap64 (6 * (Int.tmod am 60))), .int .i64 (Int.tmod am 4)] 33 (0, 0)) (Z5 aa) hg (Kd.R_away aZ.out (fun _ hk => hk.2)))
            have n3_ := Aside0.mk (Kd.R_after (ok := (fun k_ => some k_ ≠ (.slice fH aj.length fI : Value).ownBlock ∧ k_ ≠ ab)) (Z63 aJ) hg hat)
            have n4_ := Aside0.mk (below_weaken (Z10) HL.out hb)
            have n5_ := Aside0.mk (KeepBut.trans (Z6) (KeepBut.of_grown hg g) (Kd.R_base2 aZ.out))
            have n6_ := Aside0.mk (ho)
            clear ae
            clear HI0
            clear aa
            clear aJ
            clear HB
            clear HK
            clear aZ
            have ae := n0_
            have HI0 := n1_
            have aa := n2_
            have aJ := n3_
            have HB := n4_
            have HK := n5_
            have bi := n6_
            clear n0_ n1_ n2_ n3_ n4_ n5_ n6_
            clear ho hb hg hat
            refine hK.out _ _ ⟨(blk_cell aa.out 0).trans rfl, (blk_cell aa.out 1).trans rfl, (blk_cell aa.out 2).trans rfl⟩ (fun hHeld => ?_)
            clear hK K
            refine norm_ (a' := ?_) ?_ ?_
            rotate_left
            ·show Act.put _ (some 39) _ = _
             simp only [Act.put, List.setIfInBounds_toArray, List.set_cons_zero, List.set_cons_succ, i64_w, i32_w]
             rfl
            exact norm_ (Z33) (hCont (eG, dC, cw) _ ⟨hHeld, (Z28 bi), (Z20 aJ), (Z20 ae), (Z5 aa), (Z9), (Z6), (Z10)⟩)
           rintro ⟨eG, dC, cw⟩ oF ⟨hS_, h0_, h1_, h2_, h3_, h4_, h5_, h6_⟩
           have n0_ : Aside0 (Kd.R k33 33 oF w.heap.size (fun k_ => some k_ ≠ (cw : Value).ownBlock ∧ some k_ ≠ (.slice fH aj.length fI : Value).ownBlock ∧ k_ ≠ ab) dC er) := ⟨h0_⟩
           have n1_ : Aside0 (Kd.R k33 33 oF w.heap.size (fun k_ => some k_ ≠ (dC : Value).ownBlock ∧ some k_ ≠ (.slice fH aj.length fI : Value).ownBlock ∧ k_ ≠ ab) cw da) := ⟨h1_⟩
           have n2_ : Aside0 (Kd.R k33 33 oF w.heap.size (fun k_ => some k_ ≠ (dC : Value).ownBlock ∧ some k_ ≠ (cw : Value).ownBlock ∧ k_ ≠ ab) (.slice fH aj.length fI) aj) := ⟨h2_⟩
           have n3_ : Aside0 (oF.heap[ab]? = some (.cells #[.int .i64 ao, .int .i64 (wrap64 (6 * (Int.tmod am 60))), .int .i64 (Int.tmod am 4)] 33 (0, 0))) := ⟨h3_⟩
           have n4_ : Aside0 (IsS47 w0 oF g s0_0 bO bP) := ⟨h4_⟩
           have n5_ : Aside0 (KeepBut w oF g none) := ⟨h5_⟩
           have n6_ : Aside0 (Below w0.heap.size w0 oF) := ⟨h6_⟩
           clear ae
           clear aa
           clear HI0
           clear HK
           clear HB
           clear h0_ h1_ h2_ h3_ h4_ h5_ h6_
           have bi := n0_
           have aJ := n1_
           have ae := n2_
           have aa := n3_
           have HI0 := n4_
           have HK := n5_
           have HB := n6_
           clear n0_ n1_ n2_ n3_ n4_ n5_ n6_
           have hHeld : oF.cell? ⟨ab, 0, none⟩ = some (.int .i64 ao) ∧ oF.cell? ⟨ab, 1, none⟩ = some (.int .i64 (wrap64 (6 * (Int.tmod am 60)))) ∧ oF.cell? ⟨ab, 2, none⟩ = some (.int .i64 (Int.tmod am 4)) := hS_
           obtain ⟨uG, uH, rc⟩ := Kd.R_slice aJ.out
           (first | subst rc | (injection rc with f1_ f2_ f3_; have f4_ := f1_.symm; have f5_ := f3_.symm; clear f1_ f2_ f3_; subst f4_; subst f5_))
           refine norm_ (a' := ?_) ?_ ?_
           rotate_left
           ·simp only [putAll, Act.put, List.setIfInBounds_toArray, List.set_cons_zero, List.set_cons_succ]
            rfl
           refine one_ (i := 5) (N := some 42) (M_ 6 6) rfl rfl (one_of HT_.out (by kernel_rfl)) (by decide) (fun K hK => ?_)
           refine Kd.R_append_rows_step k33 w.heap.size (by rfl) (.tmp 39) (.tmp 41) 24 33 (.agg #[(.int .i64 0), (.int .i64 0), (.int .i64 0)]) 24 rfl Tryd.underlying24 info33 rfl (by decide) (by omega) dC er da _ _ _ (fun k_ => some k_ ≠ (.slice fH aj.length fI : Value).ownBlock ∧ some k_ ≠ (.slice uG da.length uH : Value).ownBlock ∧ k_ ≠ ab) (fun _ => False) rfl rfl ?aO ?aR (fun _ _ h => h) (fun _ h => h.elim) ?aF (Below.refl _ _) ?aS ?aL ?_
           (case aR => exact Z4 aJ)
           (case aF => exact (fun k_ hk => ⟨Kd.fresh' (Yd_ ae) k_ hk, Kd.fresh' (Yd_ aJ) k_ hk, Kd.freshB (g := ab) (o := .cells #[.int .i64 ao, .int .i64 (wrap64 (6 * (Int.tmod am 60))), .int .i64 (Int.tmod am 4)] 33 (0, 0)) (Z5 aa) k_ hk⟩))
           (case aO => exact (Z28 bi))
           (case aS => exact (keep_size (w := w) (g := g) (row := none) (Z6)))
           (case aL => exact Z82 tC)
           intro v222 w49 ho hb hg hat
           rw [← tD.out] at ho
           have n0_ := Aside0.mk (Kd.R_after (ok := (fun k_ => some k_ ≠ (.slice uG da.length uH : Value).ownBlock ∧ k_ ≠ ab)) (Z29 ae) hg hat)
           have n1_ := Aside0.mk (IsS47.grown (Z9) hg (IsS47.own_ne HI0.out bi.out (by decide)))
           have n2_ := Aside0.mk (blk_grown (g := ab) (o := .cells #[.int .i64 ao, .int .i64 (wrap64 (6 * (Int.tmod am 60))), .int .i64 (Int.tmod am 4)] 33 (0, 0)) (Z5 aa) hg (Kd.R_away bi.out (fun _ hk => hk.2.2)))
           have n3_ := Aside0.mk (Kd.R_after (ok := (fun k_ => some k_ ≠ (.slice fH aj.length fI : Value).ownBlock ∧ k_ ≠ ab)) (Z29 aJ) hg hat)
           have n4_ := Aside0.mk (below_weaken (Z10) HL.out hb)
           have n5_ := Aside0.mk (KeepBut.trans (Z6) (KeepBut.of_grown hg g) (Kd.R_base2 bi.out))
           have n6_ := Aside0.mk (ho)
           clear ae
           clear HI0
           clear aa
           clear aJ
           clear HB
           clear HK
           clear bi
           have ae := n0_
           have HI0 := n1_
           have aa := n2_
           have aJ := n3_
           have HB := n4_
           have HK := n5_
           have dc := n6_
           clear n0_ n1_ n2_ n3_ n4_ n5_ n6_
           clear ho hb hg hat
           obtain ⟨wZ, xa, re⟩ := Kd.R_slice dc.out
           (first | subst re | (injection re with f1_ f2_ f3_; have f4_ := f1_.symm; have f5_ := f3_.symm; clear f1_ f2_ f3_; subst f4_; subst f5_))
           refine hK.out _ _ ⟨(blk_cell aa.out 0).trans rfl, (blk_cell aa.out 1).trans rfl, (blk_cell aa.out 2).trans rfl⟩ (fun hHeld => ?_)
           clear hK K
           refine norm_ (a' := ?_) ?_ ?_
           rotate_left
           ·show Act.put _ (some 42) _ = _
            simp only [Act.put, List.setIfInBounds_toArray, List.set_cons_zero, List.set_cons_succ, i64_w, i32_w]
            rfl
           refine one_ (i := 6) (N := some 43) (M_ 7 5) rfl rfl (one_of HT_.out (by kernel_rfl)) (by decide) (fun K hK => ?_)
           refine goes_ Tryd.func44 (by kernel_rfl) rfl #[.slice wZ qy.length xa] (by rfl) rfl rfl (Z27) ?_
           with_reducible refine (spec_cySorted.calls bU _ _ qy vp false _ ?side1 ?side2 yP.out).mono ?_
           (case side1 => exact Z4 dc)
           (case side2 => exact (Kd.R_reads' dc.out).2.1)
           rintro e vV ⟨v226, rfl, ho0, hb⟩
           refine ⟨_, rfl, ?_⟩
           have n0_ := Aside0.mk (Yb_ ae)
           have n1_ := Aside0.mk (Yb_ aJ)
           have n2_ := Aside0.mk (Yb_ dc)
           have n3_ := Aside0.mk (Kd.R_lower (Kd.R_newB (Kd.R_new' (Kd.R_new' (Kd.R_new' ho0 (Yd_ ae)) (Yd_ aJ)) (Yd_ dc)) (g := ab) (o := .cells #[.int .i64 ao, .int .i64 (wrap64 (6 * (Int.tmod am 60))), .int .i64 (Int.tmod am 4)] 33 (0, 0)) (Z5 aa)) (keep_size (w := w) (g := g) (row := none) (Z6)))
           have n4_ := Aside0.mk (IsS47.below (Z9) hb)
           have n5_ := Aside0.mk (Ye_ aa)
           have n6_ := Aside0.mk (KeepBut.trans (Z6) (KeepBut.of_below hb g none) (.inl rfl))
           have n7_ := Aside0.mk (below_step (Z10) hb)
           clear ae
           clear aJ
           clear dc
           clear HI0
           clear aa
           clear HK
           clear HB
           have ae := n0_
           have aJ := n1_
           have dc := n2_
           have tE := n3_
           have HI0 := n4_
           have aa := n5_
           have HK := n6_
           have HB := n7_
           clear n0_ n1_ n2_ n3_ n4_ n5_ n6_ n7_
           (try clear hb)
           (try clear hb2)
           (try clear hk)
           (try clear hi)
           (try clear ho0)
           refine hK.out _ _ ⟨(blk_cell aa.out 0).trans rfl, (blk_cell aa.out 1).trans rfl, (blk_cell aa.out 2).trans rfl⟩ (fun hHeld => ?_)
           clear hK K
           refine norm_ (a' := ?_) ?_ ?_
           rotate_left
           ·show Act.put _ (some 43) _ = _
            simp only [Act.put, List.setIfInBounds_toArray, List.set_cons_zero, List.set_cons_succ, i64_w, i32_w]
            rfl
           refine pu_ 7 36 (M_ 8 4) ?_
           refine pu_ 8 44 (M_ 9 3) ?_
           refine pu_ 9 45 (M_ 10 2) ?_
           refine pu_ 10 7 (M_ 11 1) ?_
           refine pu_ 11 8 (M_ 12 0) ?_
           refine done_ (done_of HT_.out (by kernel_rfl)) ?_
           try go_wp2
           go_roundg bU
           case measure => have := eS.out; have := HK2.out; have := jA.out; omega
           case rel => exact ⟨(aj), (wrap64 (am + 1)), (bO), (bP), (Z14), H', ⟨Z106⟩, ⟨Z26 ae⟩, ⟨Z9⟩, ⟨Z6⟩, ⟨Z10⟩⟩
          rw [if_neg c16] at H
          exact absurd H (by simp)
         rw [if_neg c15] at H
         exact absurd H (by simp)
        rw [if_neg c14] at H
        have fh : (ck == 60) = false := beq_eq_false_iff_ne.mpr c14
        have sq : (ck != 60) = true := bne_iff_ne.mpr c14
        obtain ⟨fY, lH⟩ : ∃ y_ : List (S33), y_ = (([] : List (S33))) := ⟨_, rfl⟩
        replace H : (if fY.length + aj.length < 5864062014805 then ((some (fY ++ aj : List (S33))).bind fun es => ((some (([(⟨ao, az, aA⟩ : S33)] : List (S33)) : List (S33))).bind fun db => (if es.length + db.length < 5864062014805 then ((spec_cySorted.f bU (es ++ db)).bind fun dv => (if dv.2 = true then (spec_l1Cur_pins.l0 bU dv.1 ck (wrap64 (am + 1)) s0_0 bO bP) else (spec_l1Cur_pins.l0 bU aj ck (wrap64 (am + 1)) s0_0 bO bP))) else (none)))) else (none)) = some (r1, r2, r3) := by first | (rw [lH]; with_reducible exact H) | (have H2_ := (Option.bind_some _ _).symm.trans H; rw [lH]; with_reducible exact H2_) | (have H2_ := (Option.bind_some _ _).symm.trans H; with_reducible exact H2_) | with_reducible exact H | (rw [lH]; exact H) | exact H
        have gg := Aside0.mk lH
        clear lH
        by_cases c53 : fY.length + aj.length < 5864062014805
        ·rw [if_pos c53] at H
         have iU := Aside0.mk c53
         clear c53
         obtain ⟨es, lI⟩ : ∃ y_ : List (S33), y_ = (fY ++ aj) := ⟨_, rfl⟩
         replace H : ((some (([(⟨ao, az, aA⟩ : S33)] : List (S33)) : List (S33))).bind fun db => (if es.length + db.length < 5864062014805 then ((spec_cySorted.f bU (es ++ db)).bind fun dv => (if dv.2 = true then (spec_l1Cur_pins.l0 bU dv.1 ck (wrap64 (am + 1)) s0_0 bO bP) else (spec_l1Cur_pins.l0 bU aj ck (wrap64 (am + 1)) s0_0 bO bP))) else (none))) = some (r1, r2, r3) := by first | (rw [lI]; with_reducible exact H) | (have H2_ := (Option.bind_some _ _).symm.trans H; rw [lI]; with_reducible exact H2_) | (have H2_ := (Option.bind_some _ _).symm.trans H; with_reducible exact H2_) | with_reducible exact H | (rw [lI]; exact H) | exact H
         have iV := Aside0.mk lI
         clear lI
         obtain ⟨db, lJ⟩ : ∃ y_ : List (S33), y_ = (([(⟨ao, az, aA⟩ : S33)] : List (S33))) := ⟨_, rfl⟩
         replace H : (if es.length + db.length < 5864062014805 then ((spec_cySorted.f bU (es ++ db)).bind fun dv => (if dv.2 = true then (spec_l1Cur_pins.l0 bU dv.1 ck (wrap64 (am + 1)) s0_0 bO bP) else (spec_l1Cur_pins.l0 bU aj ck (wrap64 (am + 1)) s0_0 bO bP))) else (none)) = some (r1, r2, r3) := by first | (rw [lJ]; with_reducible exact H) | (have H2_ := (Option.bind_some _ _).symm.trans H; rw [lJ]; with_reducible exact H2_) | (have H2_ := (Option.bind_some _ _).symm.trans H; with_reducible exact H2_) | with_reducible exact H | (rw [lJ]; exact H) | exact H
         have ej := Aside0.mk lJ
         clear lJ
         by_cases c54 : es.length + db.length < 5864062014805
         ·rw [if_pos c54] at H
          have tF := Aside0.mk c54
          clear c54
          obtain ⟨qz, lK⟩ : ∃ y_ : List (S33), y_ = (es ++ db) := ⟨_, rfl⟩
          replace H : ((spec_cySorted.f bU qz).bind fun dv => (if dv.2 = true then (spec_l1Cur_pins.l0 bU dv.1 ck (wrap64 (am + 1)) s0_0 bO bP) else (spec_l1Cur_pins.l0 bU aj ck (wrap64 (am + 1)) s0_0 bO bP))) = some (r1, r2, r3) := by first | (rw [lK]; with_reducible exact H) | (have H2_ := (Option.bind_some _ _).symm.trans H; rw [lK]; with_reducible exact H2_) | (have H2_ := (Option.bind_some _ _).symm.trans H; with_reducible exact H2_) | with_reducible exact H | (rw [lK]; exact H) | exact H
          have tG := Aside0.mk lK
          clear lK
          replace H := Option.bind_eq_some_iff.mp H
          obtain ⟨⟨vr, t241⟩, xG, H⟩ := H
          (try dsimp only at H)
          have yQ := Aside0.mk xG
          clear xG
          by_cases c56 : t241 = true
          ·subst c56
           rw [if_pos rfl] at H
           have H' := Aside0.mk H
           clear H
           try go_wp2_with (first | ((with_reducible refine gate_callee (f := 52) rfl ?_); refine gl_ 26 Tryd.func52 #[.pointer (some ⟨g, 0, none⟩)] ?_; (with_reducible refine (spec_l1Cur_pin.calls g s0_0 aX aY ao az aA bO bP w0 _ ?_ ?_ vU.out).mono ?_); exact (Z3 HI0); exact Z8; rintro e w57 ⟨rfl, hi, hb, hk⟩; refine ⟨_, rfl, ?_⟩; refine k4_ (Kd.R_mono (Kd.R_keep (IsS47.apart (show IsS47 w0 _ g s0_0 aX aY from Z3 HI0) (Z2 ae) (by decide)) hk (fun _ h => h.2)) (fun _ h => h.1)) (KeepBut.trans (Z7) hk (.inl rfl)) (hb) (hi) ?_; clear ae HK HB HI0; intro ae HK HB HI0; (try clear hb hk hi)) | ((with_reducible refine gate_dst (N := 6) rfl ?_); refine bv_ 6 33 #[.int .i64 0, .int .i64 0, .int .i64 0] ?_; intro ab hg vt hbox hb; refine k9_ (Kd.R_below (Kd.R_elderB (Z2 ae) ab (Nat.le_of_eq hg.symm)) hb) (IsS47.below (Z3 HI0) hb) (KeepBut.trans (Z7) (KeepBut.of_below hb g none) (.inl rfl)) (below_step (Z8) hb) (hbox) ((Z73 : w.heap.size ≤ ab)) ((Nat.le_trans HW0.out (Z73 : w.heap.size ≤ ab) : w0.heap.size ≤ ab)) ((Z98 : g ≠ ab)) ((Z99 : ab ≠ g)) ?_; clear ae HI0 HK HB; intro ae HI0 HK HB aa mU mT dn d8; clear hb hbox hg; have hnb59 := d8.out; have hnc59 := dn.out; obtain ⟨hcz60_0, hcz60_1, hcz60_2, hfz60_0, hfz60_1, hfz60_2⟩ := bx3_ (w := vt) aa.out; obtain ⟨ex, ey, pK⟩ := Kd.R_slice ae.out; subst pK))
           have n0_ : Aside0 (Kd.R k33 33 (((vt.setCell ⟨ab, 0, none⟩ (.int .i64 ao)).setCell ⟨ab, 1, none⟩ (.int .i64 az)).setCell ⟨ab, 2, none⟩ (.int .i64 aA)) w.heap.size (fun k_ => k_ ≠ ab) (.slice ex aj.length ey) aj) := ⟨Z85⟩
           have n1_ : Aside0 ((((vt.setCell ⟨ab, 0, none⟩ (.int .i64 ao)).setCell ⟨ab, 1, none⟩ (.int .i64 az)).setCell ⟨ab, 2, none⟩ (.int .i64 aA)).heap[ab]? = some (.cells #[.int .i64 ao, .int .i64 az, .int .i64 aA] 33 (0, 0))) := ⟨Z67⟩
           have n2_ : Aside0 (IsS47 w0 (((vt.setCell ⟨ab, 0, none⟩ (.int .i64 ao)).setCell ⟨ab, 1, none⟩ (.int .i64 az)).setCell ⟨ab, 2, none⟩ (.int .i64 aA)) g s0_0 bO bP) := ⟨Z9⟩
           have n3_ : Aside0 (KeepBut w (((vt.setCell ⟨ab, 0, none⟩ (.int .i64 ao)).setCell ⟨ab, 1, none⟩ (.int .i64 az)).setCell ⟨ab, 2, none⟩ (.int .i64 aA)) g none) := ⟨Z6⟩
           have n4_ : Aside0 (Below w0.heap.size w0 (((vt.setCell ⟨ab, 0, none⟩ (.int .i64 ao)).setCell ⟨ab, 1, none⟩ (.int .i64 az)).setCell ⟨ab, 2, none⟩ (.int .i64 aA))) := ⟨Z10⟩
           (try clear ae)
           (try clear aa)
           (try clear HI0)
           (try clear HK)
           (try clear HB)
           generalize (((vt.setCell ⟨ab, 0, none⟩ (.int .i64 ao)).setCell ⟨ab, 1, none⟩ (.int .i64 az)).setCell ⟨ab, 2, none⟩ (.int .i64 aA)) = yO at n0_ n1_ n2_ n3_ n4_ ⊢
           have ae := n0_
           have aa := n1_
           have HI0 := n2_
           have HK := n3_
           have HB := n4_
           clear n0_ n1_ n2_ n3_ n4_
           refine k5_ (Kd.R_drew ae.out) (blk_drew aa.out) (IsS47.drew HI0.out) (keep_drew HK.out) (below_drew1 HB.out) ?_
           clear ae aa HI0 HK HB
           intro ae aa HI0 HK HB
           refine start_ (n := 12) (S := fun w' => w'.cell? ⟨ab, 0, none⟩ = some (.int .i64 ao) ∧ w'.cell? ⟨ab, 1, none⟩ = some (.int .i64 az) ∧ w'.cell? ⟨ab, 2, none⟩ = some (.int .i64 aA)) (ds := []) (M_ 0 12) (by kernel_rfl) rfl rfl ⟨(blk_cell aa.out 0).trans rfl, (blk_cell aa.out 1).trans rfl, (blk_cell aa.out 2).trans rfl⟩ (fun hHeld => ?_); refine with_tabW spec_l1Cur_pins.tab12 spec_l1Cur_pins.bits12 (fun HT_ HW_ => ?_)
           generalize yO.drew = w63 at ae aa HI0 HK HB hHeld ⊢
           refine pu_ 1 38 (N_ 12 2) ?_
           refine tk3_ 3 40 (N_ 12 10) hHeld ?_
           refine join_ (σ := Value × Value × Value) 7 (M_ 5 7) (fun s_ => [(37, s_.1), (39, s_.2.1), (41, s_.2.2)]) (fun s_ w' => (w'.cell? ⟨ab, 0, none⟩ = some (.int .i64 ao) ∧ w'.cell? ⟨ab, 1, none⟩ = some (.int .i64 az) ∧ w'.cell? ⟨ab, 2, none⟩ = some (.int .i64 aA)) ∧ (Kd.R k33 33 w' w.heap.size (fun k_ => some k_ ≠ (s_.2.2 : Value).ownBlock ∧ some k_ ≠ (.slice ex aj.length ey : Value).ownBlock ∧ k_ ≠ ab) s_.2.1 es) ∧ (Kd.R k33 33 w' w.heap.size (fun k_ => some k_ ≠ (s_.2.1 : Value).ownBlock ∧ some k_ ≠ (.slice ex aj.length ey : Value).ownBlock ∧ k_ ≠ ab) s_.2.2 db) ∧ (Kd.R k33 33 w' w.heap.size (fun k_ => some k_ ≠ (s_.2.1 : Value).ownBlock ∧ some k_ ≠ (s_.2.2 : Value).ownBlock ∧ k_ ≠ ab) (.slice ex aj.length ey) aj) ∧ (w'.heap[ab]? = some (.cells #[.int .i64 ao, .int .i64 az, .int .i64 aA] 33 (0, 0))) ∧ (IsS47 w0 w' g s0_0 bO bP) ∧ (KeepBut w w' g none) ∧ (Below w0.heap.size w0 w')) ?_ ?_
           rotate_left
           ·intro hCont
            refine two_ (i := 0) (j := 4) (Ni := some 37) (Nj := some 41) (N_ 12 11) (N_ 12 26) rfl rfl rfl rfl (two_of HT_.out (by kernel_rfl)) (by decide) (by decide) (fun K hK => ?_) (fun K hK => ?_)
            ·skip
             refine Kd.R_lit_step k33 _ 33 ?hg (N := 37) ?hd (xs := ([] : List (S33))) (inner := []) (ok := fun _ => True) (okp := fun _ => True) ?hr ?hp (fun _ hk => hk) trivial (Below.refl _ _) (Nat.le_refl _) (by simp) ?_; (case hd => rfl); (case hg => rfl); (case hr => exact Z34); (case hp => exact (Reps.none _ _))
             intro eH w64 ho65 hb hg_ hnew_
             clear hg_ hnew_
             (first | rw [← gg.out] at ho65 | (simp only [Int.reduceToNat] at ho65; rw [← gg.out] at ho65))
             have n0_ := Aside0.mk (Kd.R_elder' (Z2 ae) (Kd.R_base ho65) hb)
             have n1_ := Aside0.mk (Kd.R_lower (Kd.R_newB (Kd.R_new' ho65 (Yd_ ae)) (g := ab) (o := .cells #[.int .i64 ao, .int .i64 az, .int .i64 aA] 33 (0, 0)) (Z5 aa)) (keep_size (w := w) (g := g) (row := none) (Z6)))
             have n2_ := Aside0.mk (IsS47.below (Z9) hb)
             have n3_ := Aside0.mk (Ye_ aa)
             have n4_ := Aside0.mk (KeepBut.trans (Z6) (KeepBut.of_below hb g none) (.inl rfl))
             have n5_ := Aside0.mk (below_step (Z10) hb)
             clear ae
             clear HI0
             clear aa
             clear HK
             clear HB
             have ae := n0_
             have ba := n1_
             have HI0 := n2_
             have aa := n3_
             have HK := n4_
             have HB := n5_
             clear n0_ n1_ n2_ n3_ n4_ n5_
             clear hb ho65
             refine hK.out _ _ ⟨(blk_cell aa.out 0).trans rfl, (blk_cell aa.out 1).trans rfl, (blk_cell aa.out 2).trans rfl⟩ (fun hHeld => ?_)
             clear hK K
             refine norm_ (a' := ?_) ?_ ?_
             rotate_left
             ·show Act.put _ (some 37) _ = _
              simp only [Act.put, List.setIfInBounds_toArray, List.set_cons_zero, List.set_cons_succ, i64_w, i32_w]
              rfl
             refine two_ (i := 2) (j := 4) (Ni := some 39) (Nj := some 41) (M_ 4 8) (N_ 12 27) rfl rfl rfl rfl (two_of HT_.out (by kernel_rfl)) (by decide) (by decide) (fun K hK => ?_) (fun K hK => ?_)
             ·skip
              refine Kd.R_append_rows_step k33 w.heap.size (by rfl) (.tmp 37) (.tmp 38) 24 33 (.agg #[(.int .i64 0), (.int .i64 0), (.int .i64 0)]) 24 rfl Tryd.underlying24 info33 rfl (by decide) (by omega) eH fY aj _ _ _ (fun k_ => some k_ ≠ (.slice ex aj.length ey : Value).ownBlock ∧ k_ ≠ ab) (fun _ => False) rfl rfl ?aO ?aR (fun _ _ h => h) (fun _ h => h.elim) ?aF (Below.refl _ _) ?aS ?aL ?_
              (case aR => exact Z4 ae)
              (case aF => exact (fun k_ hk => ⟨Kd.fresh' (Yd_ ae) k_ hk, Kd.freshB (g := ab) (o := .cells #[.int .i64 ao, .int .i64 az, .int .i64 aA] 33 (0, 0)) (Z5 aa) k_ hk⟩))
              (case aO => exact (Z70 ba))
              (case aS => exact (keep_size (w := w) (g := g) (row := none) (Z6)))
              (case aL => exact Z82 iU)
              intro dD yR ho hb hg hat
              rw [← iV.out] at ho
              have n0_ := Aside0.mk (Kd.R_after (ok := (fun k_ => k_ ≠ ab)) (Z2 ae) hg hat)
              have n1_ := Aside0.mk (IsS47.grown (Z9) hg (IsS47.own_ne HI0.out ba.out (by decide)))
              have n2_ := Aside0.mk (blk_grown (g := ab) (o := .cells #[.int .i64 ao, .int .i64 az, .int .i64 aA] 33 (0, 0)) (Z5 aa) hg (Kd.R_away ba.out (fun _ hk => hk.2)))
              have n3_ := Aside0.mk (below_weaken (Z10) HL.out hb)
              have n4_ := Aside0.mk (KeepBut.trans (Z6) (KeepBut.of_grown hg g) (Kd.R_base2 ba.out))
              have n5_ := Aside0.mk (ho)
              clear ae
              clear HI0
              clear aa
              clear HB
              clear HK
              clear ba
              have ae := n0_
              have HI0 := n1_
              have aa := n2_
              have HB := n3_
              have HK := n4_
              have bj := n5_
              clear n0_ n1_ n2_ n3_ n4_ n5_
              clear ho hb hg hat
              refine hK.out _ _ ⟨(blk_cell aa.out 0).trans rfl, (blk_cell aa.out 1).trans rfl, (blk_cell aa.out 2).trans rfl⟩ (fun hHeld => ?_)
              clear hK K
              refine norm_ (a' := ?_) ?_ ?_
              rotate_left
              ·show Act.put _ (some 39) _ = _
               simp only [Act.put, List.setIfInBounds_toArray, List.set_cons_zero, List.set_cons_succ, i64_w, i32_w]
               rfl
              refine one_ (i := 4) (N := some 41) (M_ 5 7) rfl rfl (one_of HT_.out (by kernel_rfl)) (by decide) (fun K hK => ?_)
              refine Kd.R_lit_step k33 _ 33 ?hg (N := 41) ?hd (xs := ([(⟨ao, az, aA⟩ : S33)] : List (S33))) (inner := [.int .i64 ao, .int .i64 az, .int .i64 aA]) (ok := fun _ => True) (okp := fun _ => True) ?hr ?hp (fun _ hk => hk) trivial (Below.refl _ _) (Nat.le_refl _) (by simp) ?_; (case hd => rfl); (case hg => rfl); (case hr => exact Z34); (case hp => exact (Reps.c3 (show Kd.M k33 _ _ _ (⟨ao, az, aA⟩ : S33) [.int .i64 ao, .int .i64 az, .int .i64 aA] from (k33_mkM _ _ _ (⟨ao, az, aA⟩ : S33) )) (Reps.none _ _)))
              intro cx w67 ho68 hb hg_ hnew_
              clear hg_ hnew_
              (first | rw [← ej.out] at ho68 | (simp only [Int.reduceToNat] at ho68; rw [← ej.out] at ho68))
              have n0_ := Aside0.mk (Kd.R_elder' (Z2 ae) (Kd.R_base ho68) hb)
              have n1_ := Aside0.mk (Kd.R_elder' (Z2 bj) (Kd.R_base ho68) hb)
              have n2_ := Aside0.mk (Kd.R_lower (Kd.R_newB (Kd.R_new' (Kd.R_new' ho68 (Yd_ ae)) (Yd_ bj)) (g := ab) (o := .cells #[.int .i64 ao, .int .i64 az, .int .i64 aA] 33 (0, 0)) (Z5 aa)) (keep_size (w := w) (g := g) (row := none) (Z6)))
              have n3_ := Aside0.mk (IsS47.below (Z9) hb)
              have n4_ := Aside0.mk (Ye_ aa)
              have n5_ := Aside0.mk (KeepBut.trans (Z6) (KeepBut.of_below hb g none) (.inl rfl))
              have n6_ := Aside0.mk (below_step (Z10) hb)
              clear ae
              clear bj
              clear HI0
              clear aa
              clear HK
              clear HB
              have ae := n0_
              have bj := n1_
              have aK := n2_
              have HI0 := n3_
              have aa := n4_
              have HK := n5_
              have HB := n6_
              clear n0_ n1_ n2_ n3_ n4_ n5_ n6_
              clear hb ho68
              refine hK.out _ _ ⟨(blk_cell aa.out 0).trans rfl, (blk_cell aa.out 1).trans rfl, (blk_cell aa.out 2).trans rfl⟩ (fun hHeld => ?_)
              clear hK K
              refine norm_ (a' := ?_) ?_ ?_
              rotate_left
              ·show Act.put _ (some 41) _ = _
               simp only [Act.put, List.setIfInBounds_toArray, List.set_cons_zero, List.set_cons_succ, i64_w, i32_w]
               rfl
              exact norm_ (Z33) (hCont (eH, dD, cx) _ ⟨hHeld, (Z20 bj), (Z59 aK), (Z66 ae), (Z5 aa), (Z9), (Z6), (Z10)⟩)
             skip
             refine Kd.R_lit_step k33 _ 33 ?hg (N := 41) ?hd (xs := ([(⟨ao, az, aA⟩ : S33)] : List (S33))) (inner := [.int .i64 ao, .int .i64 az, .int .i64 aA]) (ok := fun _ => True) (okp := fun _ => True) ?hr ?hp (fun _ hk => hk) trivial (Below.refl _ _) (Nat.le_refl _) (by simp) ?_; (case hd => rfl); (case hg => rfl); (case hr => exact Z34); (case hp => exact (Reps.c3 (show Kd.M k33 _ _ _ (⟨ao, az, aA⟩ : S33) [.int .i64 ao, .int .i64 az, .int .i64 aA] from (k33_mkM _ _ _ (⟨ao, az, aA⟩ : S33) )) (Reps.none _ _)))
             intro cx yR ho67 hb hg_ hnew_
             clear hg_ hnew_
             (first | rw [← ej.out] at ho67 | (simp only [Int.reduceToNat] at ho67; rw [← ej.out] at ho67))
             have n0_ := Aside0.mk (Kd.R_elder' (Z2 ae) (Kd.R_base ho67) hb)
             have n1_ := Aside0.mk (Kd.R_elder' (Z2 ba) (Kd.R_base ho67) hb)
             have n2_ := Aside0.mk (Kd.R_lower (Kd.R_newB (Kd.R_new' (Kd.R_new' ho67 (Yd_ ae)) (Yd_ ba)) (g := ab) (o := .cells #[.int .i64 ao, .int .i64 az, .int .i64 aA] 33 (0, 0)) (Z5 aa)) (keep_size (w := w) (g := g) (row := none) (Z6)))
             have n3_ := Aside0.mk (IsS47.below (Z9) hb)
             have n4_ := Aside0.mk (Ye_ aa)
             have n5_ := Aside0.mk (KeepBut.trans (Z6) (KeepBut.of_below hb g none) (.inl rfl))
             have n6_ := Aside0.mk (below_step (Z10) hb)
             clear ae
             clear ba
             clear HI0
             clear aa
             clear HK
             clear HB
             have ae := n0_
             have ba := n1_
             have aK := n2_
             have HI0 := n3_
             have aa := n4_
             have HK := n5_
             have HB := n6_
             clear n0_ n1_ n2_ n3_ n4_ n5_ n6_
             clear hb ho67
             refine hK.out _ _ ⟨(blk_cell aa.out 0).trans rfl, (blk_cell aa.out 1).trans rfl, (blk_cell aa.out 2).trans rfl⟩ (fun hHeld => ?_)
             clear hK K
             refine norm_ (a' := ?_) ?_ ?_
             rotate_left
             ·show Act.put _ (some 41) _ = _
              simp only [Act.put, List.setIfInBounds_toArray, List.set_cons_zero, List.set_cons_succ, i64_w, i32_w]
              rfl
             refine one_ (i := 2) (N := some 39) (M_ 5 7) rfl rfl (one_of HT_.out (by kernel_rfl)) (by decide) (fun K hK => ?_)
             refine Kd.R_append_rows_step k33 w.heap.size (by rfl) (.tmp 37) (.tmp 38) 24 33 (.agg #[(.int .i64 0), (.int .i64 0), (.int .i64 0)]) 24 rfl Tryd.underlying24 info33 rfl (by decide) (by omega) eH fY aj _ _ _ (fun k_ => some k_ ≠ (.slice ex aj.length ey : Value).ownBlock ∧ some k_ ≠ (cx : Value).ownBlock ∧ k_ ≠ ab) (fun _ => False) rfl rfl ?aO ?aR (fun _ _ h => h) (fun _ h => h.elim) ?aF (Below.refl _ _) ?aS ?aL ?_
             (case aR => exact Z4 ae)
             (case aF => exact (fun k_ hk => ⟨Kd.fresh' (Yd_ ae) k_ hk, Kd.fresh' (Yd_ aK) k_ hk, Kd.freshB (g := ab) (o := .cells #[.int .i64 ao, .int .i64 az, .int .i64 aA] 33 (0, 0)) (Z5 aa) k_ hk⟩))
             (case aO => exact (Z60 ba))
             (case aS => exact (keep_size (w := w) (g := g) (row := none) (Z6)))
             (case aL => exact Z82 iU)
             intro dD w68 ho hb hg hat
             rw [← iV.out] at ho
             have n0_ := Aside0.mk (Kd.R_after (ok := (fun k_ => some k_ ≠ (cx : Value).ownBlock ∧ k_ ≠ ab)) (Z36 ae) hg hat)
             have n1_ := Aside0.mk (IsS47.grown (Z9) hg (IsS47.own_ne HI0.out ba.out (by decide)))
             have n2_ := Aside0.mk (blk_grown (g := ab) (o := .cells #[.int .i64 ao, .int .i64 az, .int .i64 aA] 33 (0, 0)) (Z5 aa) hg (Kd.R_away ba.out (fun _ hk => hk.1.2)))
             have n3_ := Aside0.mk (Kd.R_after (ok := (fun k_ => some k_ ≠ (.slice ex aj.length ey : Value).ownBlock ∧ k_ ≠ ab)) (Z61 aK) hg hat)
             have n4_ := Aside0.mk (below_weaken (Z10) HL.out hb)
             have n5_ := Aside0.mk (KeepBut.trans (Z6) (KeepBut.of_grown hg g) (Kd.R_base2 ba.out))
             have n6_ := Aside0.mk (ho)
             clear ae
             clear HI0
             clear aa
             clear aK
             clear HB
             clear HK
             clear ba
             have ae := n0_
             have HI0 := n1_
             have aa := n2_
             have aK := n3_
             have HB := n4_
             have HK := n5_
             have bj := n6_
             clear n0_ n1_ n2_ n3_ n4_ n5_ n6_
             clear ho hb hg hat
             refine hK.out _ _ ⟨(blk_cell aa.out 0).trans rfl, (blk_cell aa.out 1).trans rfl, (blk_cell aa.out 2).trans rfl⟩ (fun hHeld => ?_)
             clear hK K
             refine norm_ (a' := ?_) ?_ ?_
             rotate_left
             ·show Act.put _ (some 39) _ = _
              simp only [Act.put, List.setIfInBounds_toArray, List.set_cons_zero, List.set_cons_succ, i64_w, i32_w]
              rfl
             exact norm_ (Z33) (hCont (eH, dD, cx) _ ⟨hHeld, (Z28 bj), (Z20 aK), (Z20 ae), (Z5 aa), (Z9), (Z6), (Z10)⟩)
            skip
            refine Kd.R_lit_step k33 _ 33 ?hg (N := 41) ?hd (xs := ([(⟨ao, az, aA⟩ : S33)] : List (S33))) (inner := [.int .i64 ao, .int .i64 az, .int .i64 aA]) (ok := fun _ => True) (okp := fun _ => True) ?hr ?hp (fun _ hk => hk) trivial (Below.refl _ _) (Nat.le_refl _) (by simp) ?_; (case hd => rfl); (case hg => rfl); (case hr => exact Z34); (case hp => exact (Reps.c3 (show Kd.M k33 _ _ _ (⟨ao, az, aA⟩ : S33) [.int .i64 ao, .int .i64 az, .int .i64 aA] from (k33_mkM _ _ _ (⟨ao, az, aA⟩ : S33) )) (Reps.none _ _)))
            intro cx w64 ho65 hb hg_ hnew_
            clear hg_ hnew_
            (first | rw [← ej.out] at ho65 | (simp only [Int.reduceToNat] at ho65; rw [← ej.out] at ho65))
            have n0_ := Aside0.mk (Kd.R_elder' (Z2 ae) (Kd.R_base ho65) hb)
            have n1_ := Aside0.mk (Kd.R_lower (Kd.R_newB (Kd.R_new' ho65 (Yd_ ae)) (g := ab) (o := .cells #[.int .i64 ao, .int .i64 az, .int .i64 aA] 33 (0, 0)) (Z5 aa)) (keep_size (w := w) (g := g) (row := none) (Z6)))
            have n2_ := Aside0.mk (IsS47.below (Z9) hb)
            have n3_ := Aside0.mk (Ye_ aa)
            have n4_ := Aside0.mk (KeepBut.trans (Z6) (KeepBut.of_below hb g none) (.inl rfl))
            have n5_ := Aside0.mk (below_step (Z10) hb)
            clear ae
            clear HI0
            clear aa
            clear HK
            clear HB
            have ae := n0_
            have aK := n1_
            have HI0 := n2_
            have aa := n3_
            have HK := n4_
            have HB := n5_
            clear n0_ n1_ n2_ n3_ n4_ n5_
            clear hb ho65
            refine hK.out _ _ ⟨(blk_cell aa.out 0).trans rfl, (blk_cell aa.out 1).trans rfl, (blk_cell aa.out 2).trans rfl⟩ (fun hHeld => ?_)
            clear hK K
            refine norm_ (a' := ?_) ?_ ?_
            rotate_left
            ·show Act.put _ (some 41) _ = _
             simp only [Act.put, List.setIfInBounds_toArray, List.set_cons_zero, List.set_cons_succ, i64_w, i32_w]
             rfl
            refine one_ (i := 0) (N := some 37) (N_ 12 27) rfl rfl (one_of HT_.out (by kernel_rfl)) (by decide) (fun K hK => ?_)
            refine Kd.R_lit_step k33 _ 33 ?hg (N := 37) ?hd (xs := ([] : List (S33))) (inner := []) (ok := fun _ => True) (okp := fun _ => True) ?hr ?hp (fun _ hk => hk) trivial (Below.refl _ _) (Nat.le_refl _) (by simp) ?_; (case hd => rfl); (case hg => rfl); (case hr => exact Z34); (case hp => exact (Reps.none _ _))
            intro eH yR ho67 hb hg_ hnew_
            clear hg_ hnew_
            (first | rw [← gg.out] at ho67 | (simp only [Int.reduceToNat] at ho67; rw [← gg.out] at ho67))
            have n0_ := Aside0.mk (Kd.R_elder' (Z2 ae) (Kd.R_base ho67) hb)
            have n1_ := Aside0.mk (Kd.R_elder' (Z2 aK) (Kd.R_base ho67) hb)
            have n2_ := Aside0.mk (Kd.R_lower (Kd.R_newB (Kd.R_new' (Kd.R_new' ho67 (Yd_ ae)) (Yd_ aK)) (g := ab) (o := .cells #[.int .i64 ao, .int .i64 az, .int .i64 aA] 33 (0, 0)) (Z5 aa)) (keep_size (w := w) (g := g) (row := none) (Z6)))
            have n3_ := Aside0.mk (IsS47.below (Z9) hb)
            have n4_ := Aside0.mk (Ye_ aa)
            have n5_ := Aside0.mk (KeepBut.trans (Z6) (KeepBut.of_below hb g none) (.inl rfl))
            have n6_ := Aside0.mk (below_step (Z10) hb)
            clear ae
            clear aK
            clear HI0
            clear aa
            clear HK
            clear HB
            have ae := n0_
            have aK := n1_
            have ba := n2_
            have HI0 := n3_
            have aa := n4_
            have HK := n5_
            have HB := n6_
            clear n0_ n1_ n2_ n3_ n4_ n5_ n6_
            clear hb ho67
            refine hK.out _ _ ⟨(blk_cell aa.out 0).trans rfl, (blk_cell aa.out 1).trans rfl, (blk_cell aa.out 2).trans rfl⟩ (fun hHeld => ?_)
            clear hK K
            refine norm_ (a' := ?_) ?_ ?_
            rotate_left
            ·show Act.put _ (some 37) _ = _
             simp only [Act.put, List.setIfInBounds_toArray, List.set_cons_zero, List.set_cons_succ, i64_w, i32_w]
             rfl
            refine one_ (i := 2) (N := some 39) (M_ 5 7) rfl rfl (one_of HT_.out (by kernel_rfl)) (by decide) (fun K hK => ?_)
            refine Kd.R_append_rows_step k33 w.heap.size (by rfl) (.tmp 37) (.tmp 38) 24 33 (.agg #[(.int .i64 0), (.int .i64 0), (.int .i64 0)]) 24 rfl Tryd.underlying24 info33 rfl (by decide) (by omega) eH fY aj _ _ _ (fun k_ => some k_ ≠ (.slice ex aj.length ey : Value).ownBlock ∧ some k_ ≠ (cx : Value).ownBlock ∧ k_ ≠ ab) (fun _ => False) rfl rfl ?aO ?aR (fun _ _ h => h) (fun _ h => h.elim) ?aF (Below.refl _ _) ?aS ?aL ?_
            (case aR => exact Z4 ae)
            (case aF => exact (fun k_ hk => ⟨Kd.fresh' (Yd_ ae) k_ hk, Kd.fresh' (Yd_ aK) k_ hk, Kd.freshB (g := ab) (o := .cells #[.int .i64 ao, .int .i64 az, .int .i64 aA] 33 (0, 0)) (Z5 aa) k_ hk⟩))
            (case aO => exact (Z62 ba))
            (case aS => exact (keep_size (w := w) (g := g) (row := none) (Z6)))
            (case aL => exact Z82 iU)
            intro dD w68 ho hb hg hat
            rw [← iV.out] at ho
            have n0_ := Aside0.mk (Kd.R_after (ok := (fun k_ => some k_ ≠ (cx : Value).ownBlock ∧ k_ ≠ ab)) (Z37 ae) hg hat)
            have n1_ := Aside0.mk (IsS47.grown (Z9) hg (IsS47.own_ne HI0.out ba.out (by decide)))
            have n2_ := Aside0.mk (blk_grown (g := ab) (o := .cells #[.int .i64 ao, .int .i64 az, .int .i64 aA] 33 (0, 0)) (Z5 aa) hg (Kd.R_away ba.out (fun _ hk => hk.2)))
            have n3_ := Aside0.mk (Kd.R_after (ok := (fun k_ => some k_ ≠ (.slice ex aj.length ey : Value).ownBlock ∧ k_ ≠ ab)) (Z63 aK) hg hat)
            have n4_ := Aside0.mk (below_weaken (Z10) HL.out hb)
            have n5_ := Aside0.mk (KeepBut.trans (Z6) (KeepBut.of_grown hg g) (Kd.R_base2 ba.out))
            have n6_ := Aside0.mk (ho)
            clear ae
            clear HI0
            clear aa
            clear aK
            clear HB
            clear HK
            clear ba
            have ae := n0_
            have HI0 := n1_
            have aa := n2_
            have aK := n3_
            have HB := n4_
            have HK := n5_
            have bj := n6_
            clear n0_ n1_ n2_ n3_ n4_ n5_ n6_
            clear ho hb hg hat
            refine hK.out _ _ ⟨(blk_cell aa.out 0).trans rfl, (blk_cell aa.out 1).trans rfl, (blk_cell aa.out 2).trans rfl⟩ (fun hHeld => ?_)
            clear hK K
            refine norm_ (a' := ?_) ?_ ?_
            rotate_left
            ·show Act.put _ (some 39) _ = _
             simp only [Act.put, List.setIfInBounds_toArray, List.set_cons_zero, List.set_cons_succ, i64_w, i32_w]
             rfl
            exact norm_ (Z33) (hCont (eH, dD, cx) _ ⟨hHeld, (Z28 bj), (Z20 aK), (Z20 ae), (Z5 aa), (Z9), (Z6), (Z10)⟩)
           rintro ⟨eH, dD, cx⟩ qV ⟨hS_, h0_, h1_, h2_, h3_, h4_, h5_, h6_⟩
           have n0_ : Aside0 (Kd.R k33 33 qV w.heap.size (fun k_ => some k_ ≠ (cx : Value).ownBlock ∧ some k_ ≠ (.slice ex aj.length ey : Value).ownBlock ∧ k_ ≠ ab) dD es) := ⟨h0_⟩
           have n1_ : Aside0 (Kd.R k33 33 qV w.heap.size (fun k_ => some k_ ≠ (dD : Value).ownBlock ∧ some k_ ≠ (.slice ex aj.length ey : Value).ownBlock ∧ k_ ≠ ab) cx db) := ⟨h1_⟩
           have n2_ : Aside0 (Kd.R k33 33 qV w.heap.size (fun k_ => some k_ ≠ (dD : Value).ownBlock ∧ some k_ ≠ (cx : Value).ownBlock ∧ k_ ≠ ab) (.slice ex aj.length ey) aj) := ⟨h2_⟩
           have n3_ : Aside0 (qV.heap[ab]? = some (.cells #[.int .i64 ao, .int .i64 az, .int .i64 aA] 33 (0, 0))) := ⟨h3_⟩
           have n4_ : Aside0 (IsS47 w0 qV g s0_0 bO bP) := ⟨h4_⟩
           have n5_ : Aside0 (KeepBut w qV g none) := ⟨h5_⟩
           have n6_ : Aside0 (Below w0.heap.size w0 qV) := ⟨h6_⟩
           clear ae
           clear aa
           clear HI0
           clear HK
           clear HB
           clear h0_ h1_ h2_ h3_ h4_ h5_ h6_
           have bj := n0_
           have aK := n1_
           have ae := n2_
           have aa := n3_
           have HI0 := n4_
           have HK := n5_
           have HB := n6_
           clear n0_ n1_ n2_ n3_ n4_ n5_ n6_
           have hHeld : qV.cell? ⟨ab, 0, none⟩ = some (.int .i64 ao) ∧ qV.cell? ⟨ab, 1, none⟩ = some (.int .i64 az) ∧ qV.cell? ⟨ab, 2, none⟩ = some (.int .i64 aA) := hS_
           obtain ⟨uJ, uK, rg⟩ := Kd.R_slice aK.out
           (first | subst rg | (injection rg with f1_ f2_ f3_; have f4_ := f1_.symm; have f5_ := f3_.symm; clear f1_ f2_ f3_; subst f4_; subst f5_))
           refine norm_ (a' := ?_) ?_ ?_
           rotate_left
           ·simp only [putAll, Act.put, List.setIfInBounds_toArray, List.set_cons_zero, List.set_cons_succ]
            rfl
           refine one_ (i := 5) (N := some 42) (M_ 6 6) rfl rfl (one_of HT_.out (by kernel_rfl)) (by decide) (fun K hK => ?_)
           refine Kd.R_append_rows_step k33 w.heap.size (by rfl) (.tmp 39) (.tmp 41) 24 33 (.agg #[(.int .i64 0), (.int .i64 0), (.int .i64 0)]) 24 rfl Tryd.underlying24 info33 rfl (by decide) (by omega) dD es db _ _ _ (fun k_ => some k_ ≠ (.slice ex aj.length ey : Value).ownBlock ∧ some k_ ≠ (.slice uJ db.length uK : Value).ownBlock ∧ k_ ≠ ab) (fun _ => False) rfl rfl ?aO ?aR (fun _ _ h => h) (fun _ h => h.elim) ?aF (Below.refl _ _) ?aS ?aL ?_
           (case aR => exact Z4 aK)
           (case aF => exact (fun k_ hk => ⟨Kd.fresh' (Yd_ ae) k_ hk, Kd.fresh' (Yd_ aK) k_ hk, Kd.freshB (g := ab) (o := .cells #[.int .i64 ao, .int .i64 az, .int .i64 aA] 33 (0, 0)) (Z5 aa) k_ hk⟩))
           (case aO => exact (Z28 bj))
           (case aS => exact (keep_size (w := w) (g := g) (row := none) (Z6)))
           (case aL => exact Z82 tF)
           intro v238 w70 ho hb hg hat
           rw [← tG.out] at ho
           have n0_ := Aside0.mk (Kd.R_after (ok := (fun k_ => some k_ ≠ (.slice uJ db.length uK : Value).ownBlock ∧ k_ ≠ ab)) (Z29 ae) hg hat)
           have n1_ := Aside0.mk (IsS47.grown (Z9) hg (IsS47.own_ne HI0.out bj.out (by decide)))
           have n2_ := Aside0.mk (blk_grown (g := ab) (o := .cells #[.int .i64 ao, .int .i64 az, .int .i64 aA] 33 (0, 0)) (Z5 aa) hg (Kd.R_away bj.out (fun _ hk => hk.2.2)))
           have n3_ := Aside0.mk (Kd.R_after (ok := (fun k_ => some k_ ≠ (.slice ex aj.length ey : Value).ownBlock ∧ k_ ≠ ab)) (Z29 aK) hg hat)
           have n4_ := Aside0.mk (below_weaken (Z10) HL.out hb)
           have n5_ := Aside0.mk (KeepBut.trans (Z6) (KeepBut.of_grown hg g) (Kd.R_base2 bj.out))
           have n6_ := Aside0.mk (ho)
           clear ae
           clear HI0
           clear aa
           clear aK
           clear HB
           clear HK
           clear bj
           have ae := n0_
           have HI0 := n1_
           have aa := n2_
           have aK := n3_
           have HB := n4_
           have HK := n5_
           have dd := n6_
           clear n0_ n1_ n2_ n3_ n4_ n5_ n6_
           clear ho hb hg hat
           obtain ⟨xd, xe, rh⟩ := Kd.R_slice dd.out
           (first | subst rh | (injection rh with f1_ f2_ f3_; have f4_ := f1_.symm; have f5_ := f3_.symm; clear f1_ f2_ f3_; subst f4_; subst f5_))
           refine hK.out _ _ ⟨(blk_cell aa.out 0).trans rfl, (blk_cell aa.out 1).trans rfl, (blk_cell aa.out 2).trans rfl⟩ (fun hHeld => ?_)
           clear hK K
           refine norm_ (a' := ?_) ?_ ?_
           rotate_left
           ·show Act.put _ (some 42) _ = _
            simp only [Act.put, List.setIfInBounds_toArray, List.set_cons_zero, List.set_cons_succ, i64_w, i32_w]
            rfl
           refine one_ (i := 6) (N := some 43) (M_ 7 5) rfl rfl (one_of HT_.out (by kernel_rfl)) (by decide) (fun K hK => ?_)
           refine goes_ Tryd.func44 (by kernel_rfl) rfl #[.slice xd qz.length xe] (by rfl) rfl rfl (Z27) ?_
           with_reducible refine (spec_cySorted.calls bU _ _ qz vr true _ ?side1 ?side2 yQ.out).mono ?_
           (case side1 => exact Z4 dd)
           (case side2 => exact (Kd.R_reads' dd.out).2.1)
           rintro e w73 ⟨v242, rfl, ho0, hb⟩
           refine ⟨_, rfl, ?_⟩
           have n0_ := Aside0.mk (Yb_ ae)
           have n1_ := Aside0.mk (Yb_ aK)
           have n2_ := Aside0.mk (Yb_ dd)
           have n3_ := Aside0.mk (Kd.R_lower (Kd.R_newB (Kd.R_new' (Kd.R_new' (Kd.R_new' ho0 (Yd_ ae)) (Yd_ aK)) (Yd_ dd)) (g := ab) (o := .cells #[.int .i64 ao, .int .i64 az, .int .i64 aA] 33 (0, 0)) (Z5 aa)) (keep_size (w := w) (g := g) (row := none) (Z6)))
           have n4_ := Aside0.mk (IsS47.below (Z9) hb)
           have n5_ := Aside0.mk (Ye_ aa)
           have n6_ := Aside0.mk (KeepBut.trans (Z6) (KeepBut.of_below hb g none) (.inl rfl))
           have n7_ := Aside0.mk (below_step (Z10) hb)
           clear ae
           clear aK
           clear dd
           clear HI0
           clear aa
           clear HK
           clear HB
           have ae := n0_
           have aK := n1_
           have dd := n2_
           have tH := n3_
           have HI0 := n4_
           have aa := n5_
           have HK := n6_
           have HB := n7_
           clear n0_ n1_ n2_ n3_ n4_ n5_ n6_ n7_
           (try clear hb)
           (try clear hb2)
           (try clear hk)
           (try clear hi)
           (try clear ho0)
           refine hK.out _ _ ⟨(blk_cell aa.out 0).trans rfl, (blk_cell aa.out 1).trans rfl, (blk_cell aa.out 2).trans rfl⟩ (fun hHeld => ?_)
           clear hK K
           refine norm_ (a' := ?_) ?_ ?_
           rotate_left
           ·show Act.put _ (some 43) _ = _
            simp only [Act.put, List.setIfInBounds_toArray, List.set_cons_zero, List.set_cons_succ, i64_w, i32_w]
            rfl
           refine pu_ 7 36 (M_ 8 4) ?_
           refine pu_ 8 44 (M_ 9 3) ?_
           refine pu_ 9 45 (M_ 10 2) ?_
           refine pu_ 10 7 (M_ 11 1) ?_
           refine pu_ 11 8 (M_ 12 0) ?_
           refine done_ (done_of HT_.out (by kernel_rfl)) ?_
           try go_wp2
           go_roundg bU
           case measure => have := eS.out; have := HK2.out; have := jA.out; omega
           case rel => exact ⟨(vr), (wrap64 (am + 1)), (bO), (bP), (Z14), H', ⟨Z106⟩, ⟨Z26 tH⟩, ⟨Z9⟩, ⟨Z6⟩, ⟨Z10⟩⟩
          replace c56 := Bool.eq_false_iff.mpr c56
          subst c56
          rw [if_neg (show ¬ (false = true) by decide)] at H
          have H' := Aside0.mk H
          clear H
          try go_wp2_with (first | ((with_reducible refine gate_callee (f := 52) rfl ?_); refine gl_ 26 Tryd.func52 #[.pointer (some ⟨g, 0, none⟩)] ?_; (with_reducible refine (spec_l1Cur_pin.calls g s0_0 aX aY ao az aA bO bP w0 _ ?_ ?_ vU.out).mono ?_); exact (Z3 HI0); exact Z8; rintro e w74 ⟨rfl, hi, hb, hk⟩; refine ⟨_, rfl, ?_⟩; refine k4_ (Kd.R_mono (Kd.R_keep (IsS47.apart (show IsS47 w0 _ g s0_0 aX aY from Z3 HI0) (Z2 ae) (by decide)) hk (fun _ h => h.2)) (fun _ h => h.1)) (KeepBut.trans (Z7) hk (.inl rfl)) (hb) (hi) ?_; clear ae HK HB HI0; intro ae HK HB HI0; (try clear hb hk hi)) | ((with_reducible refine gate_dst (N := 6) rfl ?_); refine bv_ 6 33 #[.int .i64 0, .int .i64 0, .int .i64 0] ?_; intro ab hg vu hbox hb; refine k9_ (Kd.R_below (Kd.R_elderB (Z2 ae) ab (Nat.le_of_eq hg.symm)) hb) (IsS47.below (Z3 HI0) hb) (KeepBut.trans (Z7) (KeepBut.of_below hb g none) (.inl rfl)) (below_step (Z8) hb) (hbox) ((Z73 : w.heap.size ≤ ab)) ((Nat.le_trans HW0.out (Z73 : w.heap.size ≤ ab) : w0.heap.size ≤ ab)) ((Z98 : g ≠ ab)) ((Z99 : ab ≠ g)) ?_; clear ae HI0 HK HB; intro ae HI0 HK HB aa mU mT dn d8; clear hb hbox hg; have hnb76 := d8.out; have hnc76 := dn.out; obtain ⟨hcz77_0, hcz77_1, hcz77_2, hfz77_0, hfz77_1, hfz77_2⟩ := bx3_ (w := vu) aa.out; obtain ⟨e7, e8, uL⟩ := Kd.R_slice ae.out; subst uL))
          have n0_ : Aside0 (Kd.R k33 33 (((vu.setCell ⟨ab, 0, none⟩ (.int .i64 ao)).setCell ⟨ab, 1, none⟩ (.int .i64 az)).setCell ⟨ab, 2, none⟩ (.int .i64 aA)) w.heap.size (fun k_ => k_ ≠ ab) (.slice e7 aj.length e8) aj) := ⟨Z85⟩
          have n1_ : Aside0 ((((vu.setCell ⟨ab, 0, none⟩ (.int .i64 ao)).setCell ⟨ab, 1, none⟩ (.int .i64 az)).setCell ⟨ab, 2, none⟩ (.int .i64 aA)).heap[ab]? = some (.cells #[.int .i64 ao, .int .i64 az, .int .i64 aA] 33 (0, 0))) := ⟨Z67⟩
          have n2_ : Aside0 (IsS47 w0 (((vu.setCell ⟨ab, 0, none⟩ (.int .i64 ao)).setCell ⟨ab, 1, none⟩ (.int .i64 az)).setCell ⟨ab, 2, none⟩ (.int .i64 aA)) g s0_0 bO bP) := ⟨Z9⟩
          have n3_ : Aside0 (KeepBut w (((vu.setCell ⟨ab, 0, none⟩ (.int .i64 ao)).setCell ⟨ab, 1, none⟩ (.int .i64 az)).setCell ⟨ab, 2, none⟩ (.int .i64 aA)) g none) := ⟨Z6⟩
          have n4_ : Aside0 (Below w0.heap.size w0 (((vu.setCell ⟨ab, 0, none⟩ (.int .i64 ao)).setCell ⟨ab, 1, none⟩ (.int .i64 az)).setCell ⟨ab, 2, none⟩ (.int .i64 aA))) := ⟨Z10⟩
          (try clear ae)
          (try clear aa)
          (try clear HI0)
          (try clear HK)
          (try clear HB)
          generalize (((vu.setCell ⟨ab, 0, none⟩ (.int .i64 ao)).setCell ⟨ab, 1, none⟩ (.int .i64 az)).setCell ⟨ab, 2, none⟩ (.int .i64 aA)) = w79 at n0_ n1_ n2_ n3_ n4_ ⊢
          have ae := n0_
          have aa := n1_
          have HI0 := n2_
          have HK := n3_
          have HB := n4_
          clear n0_ n1_ n2_ n3_ n4_
          refine k5_ (Kd.R_drew ae.out) (blk_drew aa.out) (IsS47.drew HI0.out) (keep_drew HK.out) (below_drew1 HB.out) ?_
          clear ae aa HI0 HK HB
          intro ae aa HI0 HK HB
          refine start_ (n := 12) (S := fun w' => w'.cell? ⟨ab, 0, none⟩ = some (.int .i64 ao) ∧ w'.cell? ⟨ab, 1, none⟩ = some (.int .i64 az) ∧ w'.cell? ⟨ab, 2, none⟩ = some (.int .i64 aA)) (ds := []) (M_ 0 12) (by kernel_rfl) rfl rfl ⟨(blk_cell aa.out 0).trans rfl, (blk_cell aa.out 1).trans rfl, (blk_cell aa.out 2).trans rfl⟩ (fun hHeld => ?_); refine with_tabW spec_l1Cur_pins.tab12 spec_l1Cur_pins.bits12 (fun HT_ HW_ => ?_)
          generalize w79.drew = w80 at ae aa HI0 HK HB hHeld ⊢
          refine pu_ 1 38 (N_ 12 2) ?_
          refine tk3_ 3 40 (N_ 12 10) hHeld ?_
          refine join_ (σ := Value × Value × Value) 7 (M_ 5 7) (fun s_ => [(37, s_.1), (39, s_.2.1), (41, s_.2.2)]) (fun s_ w' => (w'.cell? ⟨ab, 0, none⟩ = some (.int .i64 ao) ∧ w'.cell? ⟨ab, 1, none⟩ = some (.int .i64 az) ∧ w'.cell? ⟨ab, 2, none⟩ = some (.int .i64 aA)) ∧ (Kd.R k33 33 w' w.heap.size (fun k_ => some k_ ≠ (s_.2.2 : Value).ownBlock ∧ some k_ ≠ (.slice e7 aj.length e8 : Value).ownBlock ∧ k_ ≠ ab) s_.2.1 es) ∧ (Kd.R k33 33 w' w.heap.size (fun k_ => some k_ ≠ (s_.2.1 : Value).ownBlock ∧ some k_ ≠ (.slice e7 aj.length e8 : Value).ownBlock ∧ k_ ≠ ab) s_.2.2 db) ∧ (Kd.R k33 33 w' w.heap.size (fun k_ => some k_ ≠ (s_.2.1 : Value).ownBlock ∧ some k_ ≠ (s_.2.2 : Value).ownBlock ∧ k_ ≠ ab) (.slice e7 aj.length e8) aj) ∧ (w'.heap[ab]? = some (.cells #[.int .i64 ao, .int .i64 az, .int .i64 aA] 33 (0, 0))) ∧ (IsS47 w0 w' g s0_0 bO bP) ∧ (KeepBut w w' g none) ∧ (Below w0.heap.size w0 w')) ?_ ?_
          rotate_left
          ·intro hCont
           refine two_ (i := 0) (j := 4) (Ni := some 37) (Nj := some 41) (N_ 12 11) (N_ 12 26) rfl rfl rfl rfl (two_of HT_.out (by kernel_rfl)) (by decide) (by decide) (fun K hK => ?_) (fun K hK => ?_)
           ·skip
            refine Kd.R_lit_step k33 _ 33 ?hg (N := 37) ?hd (xs := ([] : List (S33))) (inner := []) (ok := fun _ => True) (okp := fun _ => True) ?hr ?hp (fun _ hk => hk) trivial (Below.refl _ _) (Nat.le_refl _) (by simp) ?_; (case hd => rfl); (case hg => rfl); (case hr => exact Z34); (case hp => exact (Reps.none _ _))
            intro eH w81 ho82 hb hg_ hnew_
            clear hg_ hnew_
            (first | rw [← gg.out] at ho82 | (simp only [Int.reduceToNat] at ho82; rw [← gg.out] at ho82))
            have n0_ := Aside0.mk (Kd.R_elder' (Z2 ae) (Kd.R_base ho82) hb)
            have n1_ := Aside0.mk (Kd.R_lower (Kd.R_newB (Kd.R_new' ho82 (Yd_ ae)) (g := ab) (o := .cells #[.int .i64 ao, .int .i64 az, .int .i64 aA] 33 (0, 0)) (Z5 aa)) (keep_size (w := w) (g := g) (row := none) (Z6)))
            have n2_ := Aside0.mk (IsS47.below (Z9) hb)
            have n3_ := Aside0.mk (Ye_ aa)
            have n4_ := Aside0.mk (KeepBut.trans (Z6) (KeepBut.of_below hb g none) (.inl rfl))
            have n5_ := Aside0.mk (below_step (Z10) hb)
            clear ae
            clear HI0
            clear aa
            clear HK
            clear HB
            have ae := n0_
            have ba := n1_
            have HI0 := n2_
            have aa := n3_
            have HK := n4_
            have HB := n5_
            clear n0_ n1_ n2_ n3_ n4_ n5_
            clear hb ho82
            refine hK.out _ _ ⟨(blk_cell aa.out 0).trans rfl, (blk_cell aa.out 1).trans rfl, (blk_cell aa.out 2).trans rfl⟩ (fun hHeld => ?_)
            clear hK K
            refine norm_ (a' := ?_) ?_ ?_
            rotate_left
            ·show Act.put _ (some 37) _ = _
             simp only [Act.put, List.setIfInBounds_toArray, List.set_cons_zero, List.set_cons_succ, i64_w, i32_w]
             rfl
            refine two_ (i := 2) (j := 4) (Ni := some 39) (Nj := some 41) (M_ 4 8) (N_ 12 27) rfl rfl rfl rfl (two_of HT_.out (by kernel_rfl)) (by decide) (by decide) (fun K hK => ?_) (fun K hK => ?_)
            ·skip
             refine Kd.R_append_rows_step k33 w.heap.size (by rfl) (.tmp 37) (.tmp 38) 24 33 (.agg #[(.int .i64 0), (.int .i64 0), (.int .i64 0)]) 24 rfl Tryd.underlying24 info33 rfl (by decide) (by omega) eH fY aj _ _ _ (fun k_ => some k_ ≠ (.slice e7 aj.length e8 : Value).ownBlock ∧ k_ ≠ ab) (fun _ => False) rfl rfl ?aO ?aR (fun _ _ h => h) (fun _ h => h.elim) ?aF (Below.refl _ _) ?aS ?aL ?_
             (case aR => exact Z4 ae)
             (case aF => exact (fun k_ hk => ⟨Kd.fresh' (Yd_ ae) k_ hk, Kd.freshB (g := ab) (o := .cells #[.int .i64 ao, .int .i64 az, .int .i64 aA] 33 (0, 0)) (Z5 aa) k_ hk⟩))
             (case aO => exact (Z70 ba))
             (case aS => exact (keep_size (w := w) (g := g) (row := none) (Z6)))
             (case aL => exact Z82 iU)
             intro dD yS ho hb hg hat
             rw [← iV.out] at ho
             have n0_ := Aside0.mk (Kd.R_after (ok := (fun k_ => k_ ≠ ab)) (Z2 ae) hg hat)
             have n1_ := Aside0.mk (IsS47.grown (Z9) hg (IsS47.own_ne HI0.out ba.out (by decide)))
             have n2_ := Aside0.mk (blk_grown (g := ab) (o := .cells #[.int .i64 ao, .int .i64 az, .int .i64 aA] 33 (0, 0)) (Z5 aa) hg (Kd.R_away ba.out (fun _ hk => hk.2)))
             have n3_ := Aside0.mk (below_weaken (Z10) HL.out hb)
             have n4_ := Aside0.mk (KeepBut.trans (Z6) (KeepBut.of_grown hg g) (Kd.R_base2 ba.out))
             have n5_ := Aside0.mk (ho)
             clear ae
             clear HI0
             clear aa
             clear HB
             clear HK
             clear ba
             have ae := n0_
             have HI0 := n1_
             have aa := n2_
             have HB := n3_
             have HK := n4_
             have bj := n5_
             clear n0_ n1_ n2_ n3_ n4_ n5_
             clear ho hb hg hat
             refine hK.out _ _ ⟨(blk_cell aa.out 0).trans rfl, (blk_cell aa.out 1).trans rfl, (blk_cell aa.out 2).trans rfl⟩ (fun hHeld => ?_)
             clear hK K
             refine norm_ (a' := ?_) ?_ ?_
             rotate_left
             ·show Act.put _ (some 39) _ = _
              simp only [Act.put, List.setIfInBounds_toArray, List.set_cons_zero, List.set_cons_succ, i64_w, i32_w]
              rfl
             refine one_ (i := 4) (N := some 41) (M_ 5 7) rfl rfl (one_of HT_.out (by kernel_rfl)) (by decide) (fun K hK => ?_)
             refine Kd.R_lit_step k33 _ 33 ?hg (N := 41) ?hd (xs := ([(⟨ao, az, aA⟩ : S33)] : List (S33))) (inner := [.int .i64 ao, .int .i64 az, .int .i64 aA]) (ok := fun _ => True) (okp := fun _ => True) ?hr ?hp (fun _ hk => hk) trivial (Below.refl _ _) (Nat.le_refl _) (by simp) ?_; (case hd => rfl); (case hg => rfl); (case hr => exact Z34); (case hp => exact (Reps.c3 (show Kd.M k33 _ _ _ (⟨ao, az, aA⟩ : S33) [.int .i64 ao, .int .i64 az, .int .i64 aA] from (k33_mkM _ _ _ (⟨ao, az, aA⟩ : S33) )) (Reps.none _ _)))
             intro cx w84 ho85 hb hg_ hnew_
             clear hg_ hnew_
             (first | rw [← ej.out] at ho85 | (simp only [Int.reduceToNat] at ho85; rw [← ej.out] at ho85))
             have n0_ := Aside0.mk (Kd.R_elder' (Z2 ae) (Kd.R_base ho85) hb)
             have n1_ := Aside0.mk (Kd.R_elder' (Z2 bj) (Kd.R_base ho85) hb)
             have n2_ := Aside0.mk (Kd.R_lower (Kd.R_newB (Kd.R_new' (Kd.R_new' ho85 (Yd_ ae)) (Yd_ bj)) (g := ab) (o := .cells #[.int .i64 ao, .int .i64 az, .int .i64 aA] 33 (0, 0)) (Z5 aa)) (keep_size (w := w) (g := g) (row := none) (Z6)))
             have n3_ := Aside0.mk (IsS47.below (Z9) hb)
             have n4_ := Aside0.mk (Ye_ aa)
             have n5_ := Aside0.mk (KeepBut.trans (Z6) (KeepBut.of_below hb g none) (.inl rfl))
             have n6_ := Aside0.mk (below_step (Z10) hb)
             clear ae
             clear bj
             clear HI0
             clear aa
             clear HK
             clear HB
             have ae := n0_
             have bj := n1_
             have aK := n2_
             have HI0 := n3_
             have aa := n4_
             have HK := n5_
             have HB := n6_
             clear n0_ n1_ n2_ n3_ n4_ n5_ n6_
             clear hb ho85
             refine hK.out _ _ ⟨(blk_cell aa.out 0).trans rfl, (blk_cell aa.out 1).trans rfl, (blk_cell aa.out 2).trans rfl⟩ (fun hHeld => ?_)
             clear hK K
             refine norm_ (a' := ?_) ?_ ?_
             rotate_left
             ·show Act.put _ (some 41) _ = _
              simp only [Act.put, List.setIfInBounds_toArray, List.set_cons_zero, List.set_cons_succ, i64_w, i32_w]
              rfl
             exact norm_ (Z33) (hCont (eH, dD, cx) _ ⟨hHeld, (Z20 bj), (Z59 aK), (Z66 ae), (Z5 aa), (Z9), (Z6), (Z10)⟩)
            skip
            refine Kd.R_lit_step k33 _ 33 ?hg (N := 41) ?hd (xs := ([(⟨ao, az, aA⟩ : S33)] : List (S33))) (inner := [.int .i64 ao, .int .i64 az, .int .i64 aA]) (ok := fun _ => True) (okp := fun _ => True) ?hr ?hp (fun _ hk => hk) trivial (Below.refl _ _) (Nat.le_refl _) (by simp) ?_; (case hd => rfl); (case hg => rfl); (case hr => exact Z34); (case hp => exact (Reps.c3 (show Kd.M k33 _ _ _ (⟨ao, az, aA⟩ : S33) [.int .i64 ao, .int .i64 az, .int .i64 aA] from (k33_mkM _ _ _ (⟨ao, az, aA⟩ : S33) )) (Reps.none _ _)))
            intro cx yS ho84 hb hg_ hnew_
            clear hg_ hnew_
            (first | rw [← ej.out] at ho84 | (simp only [Int.reduceToNat] at ho84; rw [← ej.out] at ho84))
            have n0_ := Aside0.mk (Kd.R_elder' (Z2 ae) (Kd.R_base ho84) hb)
            have n1_ := Aside0.mk (Kd.R_elder' (Z2 ba) (Kd.R_base ho84) hb)
            have n2_ := Aside0.mk (Kd.R_lower (Kd.R_newB (Kd.R_new' (Kd.R_new' ho84 (Yd_ ae)) (Yd_ ba)) (g := ab) (o := .cells #[.int .i64 ao, .int .i64 az, .int .i64 aA] 33 (0, 0)) (Z5 aa)) (keep_size (w := w) (g := g) (row := none) (Z6)))
            have n3_ := Aside0.mk (IsS47.below (Z9) hb)
            have n4_ := Aside0.mk (Ye_ aa)
            have n5_ := Aside0.mk (KeepBut.trans (Z6) (KeepBut.of_below hb g none) (.inl rfl))
            have n6_ := Aside0.mk (below_step (Z10) hb)
            clear ae
            clear ba
            clear HI0
            clear aa
            clear HK
            clear HB
            have ae := n0_
            have ba := n1_
            have aK := n2_
            have HI0 := n3_
            have aa := n4_
            have HK := n5_
            have HB := n6_
            clear n0_ n1_ n2_ n3_ n4_ n5_ n6_
            clear hb ho84
            refine hK.out _ _ ⟨(blk_cell aa.out 0).trans rfl, (blk_cell aa.out 1).trans rfl, (blk_cell aa.out 2).trans rfl⟩ (fun hHeld => ?_)
            clear hK K
            refine norm_ (a' := ?_) ?_ ?_
            rotate_left
            ·show Act.put _ (some 41) _ = _
             simp only [Act.put, List.setIfInBounds_toArray, List.set_cons_zero, List.set_cons_succ, i64_w, i32_w]
             rfl
            refine one_ (i := 2) (N := some 39) (M_ 5 7) rfl rfl (one_of HT_.out (by kernel_rfl)) (by decide) (fun K hK => ?_)
            refine Kd.R_append_rows_step k33 w.heap.size (by rfl) (.tmp 37) (.tmp 38) 24 33 (.agg #[(.int .i64 0), (.int .i64 0), (.int .i64 0)]) 24 rfl Tryd.underlying24 info33 rfl (by decide) (by omega) eH fY aj _ _ _ (fun k_ => some k_ ≠ (.slice e7 aj.length e8 : Value).ownBlock ∧ some k_ ≠ (cx : Value).ownBlock ∧ k_ ≠ ab) (fun _ => False) rfl rfl ?aO ?aR (fun _ _ h => h) (fun _ h => h.elim) ?aF (Below.refl _ _) ?aS ?aL ?_
            (case aR => exact Z4 ae)
            (case aF => exact (fun k_ hk => ⟨Kd.fresh' (Yd_ ae) k_ hk, Kd.fresh' (Yd_ aK) k_ hk, Kd.freshB (g := ab) (o := .cells #[.int .i64 ao, .int .i64 az, .int .i64 aA] 33 (0, 0)) (Z5 aa) k_ hk⟩))
            (case aO => exact (Z60 ba))
            (case aS => exact (keep_size (w := w) (g := g) (row := none) (Z6)))
            (case aL => exact Z82 iU)
            intro dD w85 ho hb hg hat
            rw [← iV.out] at ho
            have n0_ := Aside0.mk (Kd.R_after (ok := (fun k_ => some k_ ≠ (cx : Value).ownBlock ∧ k_ ≠ ab)) (Z36 ae) hg hat)
            have n1_ := Aside0.mk (IsS47.grown (Z9) hg (IsS47.own_ne HI0.out ba.out (by decide)))
            have n2_ := Aside0.mk (blk_grown (g := ab) (o := .cells #[.int .i64 ao, .int .i64 az, .int .i64 aA] 33 (0, 0)) (Z5 aa) hg (Kd.R_away ba.out (fun _ hk => hk.1.2)))
            have n3_ := Aside0.mk (Kd.R_after (ok := (fun k_ => some k_ ≠ (.slice e7 aj.length e8 : Value).ownBlock ∧ k_ ≠ ab)) (Z61 aK) hg hat)
            have n4_ := Aside0.mk (below_weaken (Z10) HL.out hb)
            have n5_ := Aside0.mk (KeepBut.trans (Z6) (KeepBut.of_grown hg g) (Kd.R_base2 ba.out))
            have n6_ := Aside0.mk (ho)
            clear ae
            clear HI0
            clear aa
            clear aK
            clear HB
            clear HK
            clear ba
            have ae := n0_
            have HI0 := n1_
            have aa := n2_
            have aK := n3_
            have HB := n4_
            have HK := n5_
            have bj := n6_
            clear n0_ n1_ n2_ n3_ n4_ n5_ n6_
            clear ho hb hg hat
            refine hK.out _ _ ⟨(blk_cell aa.out 0).trans rfl, (blk_cell aa.out 1).trans rfl, (blk_cell aa.out 2).trans rfl⟩ (fun hHeld => ?_)
            clear hK K
            refine norm_ (a' := ?_) ?_ ?_
            rotate_left
            ·show Act.put _ (some 39) _ = _
             simp only [Act.put, List.setIfInBounds_toArray, List.set_cons_zero, List.set_cons_succ, i64_w, i32_w]
             rfl
            exact norm_ (Z33) (hCont (eH, dD, cx) _ ⟨hHeld, (Z28 bj), (Z20 aK), (Z20 ae), (Z5 aa), (Z9), (Z6), (Z10)⟩)
           skip
           refine Kd.R_lit_step k33 _ 33 ?hg (N := 41) ?hd (xs := ([(⟨ao, az, aA⟩ : S33)] : List (S33))) (inner := [.int .i64 ao, .int .i64 az, .int .i64 aA]) (ok := fun _ => True) (okp := fun _ => True) ?hr ?hp (fun _ hk => hk) trivial (Below.refl _ _) (Nat.le_refl _) (by simp) ?_; (case hd => rfl); (case hg => rfl); (case hr => exact Z34); (case hp => exact (Reps.c3 (show Kd.M k33 _ _ _ (⟨ao, az, aA⟩ : S33) [.int .i64 ao, .int .i64 az, .int .i64 aA] from (k33_mkM _ _ _ (⟨ao, az, aA⟩ : S33) )) (Reps.none _ _)))
           intro cx w81 ho82 hb hg_ hnew_
           clear hg_ hnew_
           (first | rw [← ej.out] at ho82 | (simp only [Int.reduceToNat] at ho82; rw [← ej.out] at ho82))
           have n0_ := Aside0.mk (Kd.R_elder' (Z2 ae) (Kd.R_base ho82) hb)
           have n1_ := Aside0.mk (Kd.R_lower (Kd.R_newB (Kd.R_new' ho82 (Yd_ ae)) (g := ab) (o := .cells #[.int .i64 ao, .int .i64 az, .int .i64 aA] 33 (0, 0)) (Z5 aa)) (keep_size (w := w) (g := g) (row := none) (Z6)))
           have n2_ := Aside0.mk (IsS47.below (Z9) hb)
           have n3_ := Aside0.mk (Ye_ aa)
           have n4_ := Aside0.mk (KeepBut.trans (Z6) (KeepBut.of_below hb g none) (.inl rfl))
           have n5_ := Aside0.mk (below_step (Z10) hb)
           clear ae
           clear HI0
           clear aa
           clear HK
           clear HB
           have ae := n0_
           have aK := n1_
           have HI0 := n2_
           have aa := n3_
           have HK := n4_
           have HB := n5_
           clear n0_ n1_ n2_ n3_ n4_ n5_
           clear hb ho82
           refine hK.out _ _ ⟨(blk_cell aa.out 0).trans rfl, (blk_cell aa.out 1).trans rfl, (blk_cell aa.out 2).trans rfl⟩ (fun hHeld => ?_)
           clear hK K
           refine norm_ (a' := ?_) ?_ ?_
           rotate_left
           ·show Act.put _ (some 41) _ = _
            simp only [Act.put, List.setIfInBounds_toArray, List.set_cons_zero, List.set_cons_succ, i64_w, i32_w]
            rfl
           refine one_ (i := 0) (N := some 37) (N_ 12 27) rfl rfl (one_of HT_.out (by kernel_rfl)) (by decide) (fun K hK => ?_)
           refine Kd.R_lit_step k33 _ 33 ?hg (N := 37) ?hd (xs := ([] : List (S33))) (inner := []) (ok := fun _ => True) (okp := fun _ => True) ?hr ?hp (fun _ hk => hk) trivial (Below.refl _ _) (Nat.le_refl _) (by simp) ?_; (case hd => rfl); (case hg => rfl); (case hr => exact Z34); (case hp => exact (Reps.none _ _))
           intro eH yS ho84 hb hg_ hnew_
           clear hg_ hnew_
           (first | rw [← gg.out] at ho84 | (simp only [Int.reduceToNat] at ho84; rw [← gg.out] at ho84))
           have n0_ := Aside0.mk (Kd.R_elder' (Z2 ae) (Kd.R_base ho84) hb)
           have n1_ := Aside0.mk (Kd.R_elder' (Z2 aK) (Kd.R_base ho84) hb)
           have n2_ := Aside0.mk (Kd.R_lower (Kd.R_newB (Kd.R_new' (Kd.R_new' ho84 (Yd_ ae)) (Yd_ aK)) (g := ab) (o := .cells #[.int .i64 ao, .int .i64 az, .int .i64 aA] 33 (0, 0)) (Z5 aa)) (keep_size (w := w) (g := g) (row := none) (Z6)))
           have n3_ := Aside0.mk (IsS47.below (Z9) hb)
           have n4_ := Aside0.mk (Ye_ aa)
           have n5_ := Aside0.mk (KeepBut.trans (Z6) (KeepBut.of_below hb g none) (.inl rfl))
           have n6_ := Aside0.mk (below_step (Z10) hb)
           clear ae
           clear aK
           clear HI0
           clear aa
           clear HK
           clear HB
           have ae := n0_
           have aK := n1_
           have ba := n2_
           have HI0 := n3_
           have aa := n4_
           have HK := n5_
           have HB := n6_
           clear n0_ n1_ n2_ n3_ n4_ n5_ n6_
           clear hb ho84
           refine hK.out _ _ ⟨(blk_cell aa.out 0).trans rfl, (blk_cell aa.out 1).trans rfl, (blk_cell aa.out 2).trans rfl⟩ (fun hHeld => ?_)
           clear hK K
           refine norm_ (a' := ?_) ?_ ?_
           rotate_left
           ·show Act.put _ (some 37) _ = _
            simp only [Act.put, List.setIfInBounds_toArray, List.set_cons_zero, List.set_cons_succ, i64_w, i32_w]
            rfl
           refine one_ (i := 2) (N := some 39) (M_ 5 7) rfl rfl (one_of HT_.out (by kernel_rfl)) (by decide) (fun K hK => ?_)
           refine Kd.R_append_rows_step k33 w.heap.size (by rfl) (.tmp 37) (.tmp 38) 24 33 (.agg #[(.int .i64 0), (.int .i64 0), (.int .i64 0)]) 24 rfl Tryd.underlying24 info33 rfl (by decide) (by omega) eH fY aj _ _ _ (fun k_ => some k_ ≠ (.slice e7 aj.length e8 : Value).ownBlock ∧ some k_ ≠ (cx : Value).ownBlock ∧ k_ ≠ ab) (fun _ => False) rfl rfl ?aO ?aR (fun _ _ h => h) (fun _ h => h.elim) ?aF (Below.refl _ _) ?aS ?aL ?_
           (case aR => exact Z4 ae)
           (case aF => exact (fun k_ hk => ⟨Kd.fresh' (Yd_ ae) k_ hk, Kd.fresh' (Yd_ aK) k_ hk, Kd.freshB (g := ab) (o := .cells #[.int .i64 ao, .int .i64 az, .int .i64 aA] 33 (0, 0)) (Z5 aa) k_ hk⟩))
           (case aO => exact (Z62 ba))
           (case aS => exact (keep_size (w := w) (g := g) (row := none) (Z6)))
           (case aL => exact Z82 iU)
           intro dD w85 ho hb hg hat
           rw [← iV.out] at ho
           have n0_ := Aside0.mk (Kd.R_after (ok := (fun k_ => some k_ ≠ (cx : Value).ownBlock ∧ k_ ≠ ab)) (Z37 ae) hg hat)
           have n1_ := Aside0.mk (IsS47.grown (Z9) hg (IsS47.own_ne HI0.out ba.out (by decide)))
           have n2_ := Aside0.mk (blk_grown (g := ab) (o := .cells #[.int .i64 ao, .int .i64 az, .int .i64 aA] 33 (0, 0)) (Z5 aa) hg (Kd.R_away ba.out (fun _ hk => hk.2)))
           have n3_ := Aside0.mk (Kd.R_after (ok := (fun k_ => some k_ ≠ (.slice e7 aj.length e8 : Value).ownBlock ∧ k_ ≠ ab)) (Z63 aK) hg hat)
           have n4_ := Aside0.mk (below_weaken (Z10) HL.out hb)
           have n5_ := Aside0.mk (KeepBut.trans (Z6) (KeepBut.of_grown hg g) (Kd.R_base2 ba.out))
           have n6_ := Aside0.mk (ho)
           clear ae
           clear HI0
           clear aa
           clear aK
           clear HB
           clear HK
           clear ba
           have ae := n0_
           have HI0 := n1_
           have aa := n2_
           have aK := n3_
           have HB := n4_
           have HK := n5_
           have bj := n6_
           clear n0_ n1_ n2_ n3_ n4_ n5_ n6_
           clear ho hb hg hat
           refine hK.out _ _ ⟨(blk_cell aa.out 0).trans rfl, (blk_cell aa.out 1).trans rfl, (blk_cell aa.out 2).trans rfl⟩ (fun hHeld => ?_)
           clear hK K
           refine norm_ (a' := ?_) ?_ ?_
           rotate_left
           ·show Act.put _ (some 39) _ = _
            simp only [Act.put, List.setIfInBounds_toArray, List.set_cons_zero, List.set_cons_succ, i64_w, i32_w]
            rfl
           exact norm_ (Z33) (hCont (eH, dD, cx) _ ⟨hHeld, (Z28 bj), (Z20 aK), (Z20 ae), (Z5 aa), (Z9), (Z6), (Z10)⟩)
          rintro ⟨eH, dD, cx⟩ qW ⟨hS_, h0_, h1_, h2_, h3_, h4_, h5_, h6_⟩
          have n0_ : Aside0 (Kd.R k33 33 qW w.heap.size (fun k_ => some k_ ≠ (cx : Value).ownBlock ∧ some k_ ≠ (.slice e7 aj.length e8 : Value).ownBlock ∧ k_ ≠ ab) dD es) := ⟨h0_⟩
          have n1_ : Aside0 (Kd.R k33 33 qW w.heap.size (fun k_ => some k_ ≠ (dD : Value).ownBlock ∧ some k_ ≠ (.slice e7 aj.length e8 : Value).ownBlock ∧ k_ ≠ ab) cx db) := ⟨h1_⟩
          have n2_ : Aside0 (Kd.R k33 33 qW w.heap.size (fun k_ => some k_ ≠ (dD : Value).ownBlock ∧ some k_ ≠ (cx : Value).ownBlock ∧ k_ ≠ ab) (.slice e7 aj.length e8) aj) := ⟨h2_⟩
          have n3_ : Aside0 (qW.heap[ab]? = some (.cells #[.int .i64 ao, .int .i64 az, .int .i64 aA] 33 (0, 0))) := ⟨h3_⟩
          have n4_ : Aside0 (IsS47 w0 qW g s0_0 bO bP) := ⟨h4_⟩
          have n5_ : Aside0 (KeepBut w qW g none) := ⟨h5_⟩
          have n6_ : Aside0 (Below w0.heap.size w0 qW) := ⟨h6_⟩
          clear ae
          clear aa
          clear HI0
          clear HK
          clear HB
          clear h0_ h1_ h2_ h3_ h4_ h5_ h6_
          have bj := n0_
          have aK := n1_
          have ae := n2_
          have aa := n3_
          have HI0 := n4_
          have HK := n5_
          have HB := n6_
          clear n0_ n1_ n2_ n3_ n4_ n5_ n6_
          have hHeld : qW.cell? ⟨ab, 0, none⟩ = some (.int .i64 ao) ∧ qW.cell? ⟨ab, 1, none⟩ = some (.int .i64 az) ∧ qW.cell? ⟨ab, 2, none⟩ = some (.int .i64 aA) := hS_
          obtain ⟨uM, uN, ri⟩ := Kd.R_slice aK.out
          (first | subst ri | (injection ri with f1_ f2_ f3_; have f4_ := f1_.symm; have f5_ := f3_.symm; clear f1_ f2_ f3_; subst f4_; subst f5_))
          refine norm_ (a' := ?_) ?_ ?_
          rotate_left
          ·simp only [putAll, Act.put, List.setIfInBounds_toArray, List.set_cons_zero, List.set_cons_succ]
           rfl
          refine one_ (i := 5) (N := some 42) (M_ 6 6) rfl rfl (one_of HT_.out (by kernel_rfl)) (by decide) (fun K hK => ?_)
          refine Kd.R_append_rows_step k33 w.heap.size (by rfl) (.tmp 39) (.tmp 41) 24 33 (.agg #[(.int .i64 0), (.int .i64 0), (.int .i64 0)]) 24 rfl Tryd.underlying24 info33 rfl (by decide) (by omega) dD es db _ _ _ (fun k_ => some k_ ≠ (.slice e7 aj.length e8 : Value).ownBlock ∧ some k_ ≠ (.slice uM db.length uN : Value).ownBlock ∧ k_ ≠ ab) (fun _ => False) rfl rfl ?aO ?aR (fun _ _ h => h) (fun _ h => h.elim) ?aF (Below.refl _ _) ?aS ?aL ?_
          (case aR => exact Z4 aK)
          (case aF => exact (fun k_ hk => ⟨Kd.fresh' (Yd_ ae) k_ hk, Kd.fresh' (Yd_ aK) k_ hk, Kd.freshB (g := ab) (o := .cells #[.int .i64 ao, .int .i64 az, .int .i64 aA] 33 (0, 0)) (Z5 aa) k_ hk⟩))
          (case aO => exact (Z28 bj))
          (case aS => exact (keep_size (w := w) (g := g) (row := none) (Z6)))
          (case aL => exact Z82 tF)
          intro v238 w87 ho hb hg hat
          rw [← tG.out] at ho
          have n0_ := Aside0.mk (Kd.R_after (ok := (fun k_ => some k_ ≠ (.slice uM db.length uN : Value).ownBlock ∧ k_ ≠ ab)) (Z29 ae) hg hat)
          have n1_ := Aside0.mk (IsS47.grown (Z9) hg (IsS47.own_ne HI0.out bj.out (by decide)))
          have n2_ := Aside0.mk (blk_grown (g := ab) (o := .cells #[.int .i64 ao, .int .i64 az, .int .i64 aA] 33 (0, 0)) (Z5 aa) hg (Kd.R_away bj.out (fun _ hk => hk.2.2)))
          have n3_ := Aside0.mk (Kd.R_after (ok := (fun k_ => some k_ ≠ (.slice e7 aj.length e8 : Value).ownBlock ∧ k_ ≠ ab)) (Z29 aK) hg hat)
          have n4_ := Aside0.mk (below_weaken (Z10) HL.out hb)
          have n5_ := Aside0.mk (KeepBut.trans (Z6) (KeepBut.of_grown hg g) (Kd.R_base2 bj.out))
          have n6_ := Aside0.mk (ho)
          clear ae
          clear HI0
          clear aa
          clear aK
          clear HB
          clear HK
          clear bj
          have ae := n0_
          have HI0 := n1_
          have aa := n2_
          have aK := n3_
          have HB := n4_
          have HK := n5_
          have dd := n6_
          clear n0_ n1_ n2_ n3_ n4_ n5_ n6_
          clear ho hb hg hat
          obtain ⟨xf, xg, rj⟩ := Kd.R_slice dd.out
          (first | subst rj | (injection rj with f1_ f2_ f3_; have f4_ := f1_.symm; have f5_ := f3_.symm; clear f1_ f2_ f3_; subst f4_; subst f5_))
          refine hK.out _ _ ⟨(blk_cell aa.out 0).trans rfl, (blk_cell aa.out 1).trans rfl, (blk_cell aa.out 2).trans rfl⟩ (fun hHeld => ?_)
          clear hK K
          refine norm_ (a' := ?_) ?_ ?_
          rotate_left
          ·show Act.put _ (some 42) _ = _
           simp only [Act.put, List.setIfInBounds_toArray, List.set_cons_zero, List.set_cons_succ, i64_w, i32_w]
           rfl
          refine one_ (i := 6) (N := some 43) (M_ 7 5) rfl rfl (one_of HT_.out (by kernel_rfl)) (by decide) (fun K hK => ?_)
          refine goes_ Tryd.func44 (by kernel_rfl) rfl #[.slice xf qz.length xg] (by rfl) rfl rfl (Z27) ?_
          with_reducible refine (spec_cySorted.calls bU _ _ qz vr false _ ?side1 ?side2 yQ.out).mono ?_
          (case side1 => exact Z4 dd)
          (case side2 => exact (Kd.R_reads' dd.out).2.1)
          rintro e w90 ⟨v242, rfl, ho0, hb⟩
          refine ⟨_, rfl, ?_⟩
          have n0_ := Aside0.mk (Yb_ ae)
          have n1_ := Aside0.mk (Yb_ aK)
          have n2_ := Aside0.mk (Yb_ dd)
          have n3_ := Aside0.mk (Kd.R_lower (Kd.R_newB (Kd.R_new' (Kd.R_new' (Kd.R_new' ho0 (Yd_ ae)) (Yd_ aK)) (Yd_ dd)) (g := ab) (o := .cells #[.int .i64 ao, .int .i64 az, .int .i64 aA] 33 (0, 0)) (Z5 aa)) (keep_size (w := w) (g := g) (row := none) (Z6)))
          have n4_ := Aside0.mk (IsS47.below (Z9) hb)
          have n5_ := Aside0.mk (Ye_ aa)
          have n6_ := Aside0.mk (KeepBut.trans (Z6) (KeepBut.of_below hb g none) (.inl rfl))
          have n7_ := Aside0.mk (below_step (Z10) hb)
          clear ae
          clear aK
          clear dd
          clear HI0
          clear aa
          clear HK
          clear HB
          have ae := n0_
          have aK := n1_
          have dd := n2_
          have tH := n3_
          have HI0 := n4_
          have aa := n5_
          have HK := n6_
          have HB := n7_
          clear n0_ n1_ n2_ n3_ n4_ n5_ n6_ n7_
          (try clear hb)
          (try clear hb2)
          (try clear hk)
          (try clear hi)
          (try clear ho0)
          refine hK.out _ _ ⟨(blk_cell aa.out 0).trans rfl, (blk_cell aa.out 1).trans rfl, (blk_cell aa.out 2).trans rfl⟩ (fun hHeld => ?_)
          clear hK K
          refine norm_ (a' := ?_) ?_ ?_
          rotate_left
          ·show Act.put _ (some 43) _ = _
           simp only [Act.put, List.setIfInBounds_toArray, List.set_cons_zero, List.set_cons_succ, i64_w, i32_w]
           rfl
          refine pu_ 7 36 (M_ 8 4) ?_
          refine pu_ 8 44 (M_ 9 3) ?_
          refine pu_ 9 45 (M_ 10 2) ?_
          refine pu_ 10 7 (M_ 11 1) ?_
          refine pu_ 11 8 (M_ 12 0) ?_
          refine done_ (done_of HT_.out (by kernel_rfl)) ?_
          try go_wp2
          go_roundg bU
          case measure => have := eS.out; have := HK2.out; have := jA.out; omega
          case rel => exact ⟨(aj), (wrap64 (am + 1)), (bO), (bP), (Z14), H', ⟨Z106⟩, ⟨Z26 ae⟩, ⟨Z9⟩, ⟨Z6⟩, ⟨Z10⟩⟩
         rw [if_neg c54] at H
         exact absurd H (by simp)
        rw [if_neg c53] at H
        exact absurd H (by simp)
       replace c12 := Bool.eq_false_iff.mpr c12
       subst c12
       rw [if_neg (show ¬ (false = true) by decide)] at H
       by_cases c91 : (aj.length : Int) > 0
       ·rw [if_pos c91] at H
        have tI : decide (0 < (aj.length : Int)) = true := decide_eq_true c91
        have tJ : decide (0 < aj.length) = true := decide_eq_true (by omega)
        clear c91
        replace H := Option.bind_eq_some_iff.mp H
        obtain ⟨⟨aC, et, eu⟩, xH, H⟩ := H
        (try dsimp only at H)
        have vW := Aside0.mk xH
        clear xH
        by_cases c93 : 0 ≤ aC
        ·rw [if_pos c93] at H
         have pL : decide (0 ≤ aC) = true := decide_eq_true c93
         clear c93
         by_cases c94 : aC < (aj.length : Int)
         ·rw [if_pos c94] at H
          have pM : decide (aC < (aj.length : Int)) = true := decide_eq_true c94
          clear c94
          replace H := Option.bind_eq_some_iff.mp H
          obtain ⟨⟨b5, cJ, cK⟩, pO, H⟩ := H
          (try dsimp only at H)
          have qU := Aside0.mk pO
          clear pO
          by_cases c96 : b5 = 0
          ·rw [if_pos c96] at H
           have tK : (b5 == 0) = true := beq_iff_eq.mpr c96
           have tL : (b5 != 0) = false := bne_eq_false_iff_eq.mpr c96
           clear c96
           obtain ⟨vv, lL⟩ : ∃ y_ : List Int, y_ = (([(-1), 19, 20] : List Int)) := ⟨_, rfl⟩
           replace H : ((spec_l1Cur_among.f s0_0 cJ cK vv).bind fun im => (some ((aj.set (aC : Int).toNat (⟨im.1, (rd_T33 aj aC).f1, (rd_T33 aj aC).f2⟩ : S33)), im.2.1, im.2.2))) = some (r1, r2, r3) := by first | (rw [lL]; with_reducible exact H) | (have H2_ := (Option.bind_some _ _).symm.trans H; rw [lL]; with_reducible exact H2_) | (have H2_ := (Option.bind_some _ _).symm.trans H; with_reducible exact H2_) | with_reducible exact H | (rw [lL]; exact H) | exact H
           have tM := Aside0.mk lL
           clear lL
           replace H := Option.bind_eq_some_iff.mp H
           obtain ⟨⟨oo, xI, xJ⟩, xK, H⟩ := H
           (try dsimp only at H)
           have A98 := Aside0.mk xK
           clear xK
           obtain ⟨xL, lM⟩ : ∃ y_ : List (S33), y_ = (aj.set (aC : Int).toNat (⟨oo, (rd_T33 aj aC).f1, (rd_T33 aj aC).f2⟩ : S33)) := ⟨_, rfl⟩
           replace H : (some (xL, xI, xJ)) = some (r1, r2, r3) := by first | (rw [lM]; with_reducible exact H) | (have H2_ := (Option.bind_some _ _).symm.trans H; rw [lM]; with_reducible exact H2_) | (have H2_ := (Option.bind_some _ _).symm.trans H; with_reducible exact H2_) | with_reducible exact H | (rw [lM]; exact H) | exact H
           have Ny257 := Aside0.mk lM
           clear lM
           simp only [Option.some.injEq, Prod.mk.injEq] at H
           obtain ⟨rfl, rfl, rfl⟩ := H
           obtain ⟨Ao99, vw, eo99⟩ := Kd.R_slice ae.out
           subst eo99
           go_wp2_with (first | ((with_reducible refine gate_callee (f := 46) rfl ?_); refine gl_ 55 Tryd.func46 #[.pointer (some ⟨g, 0, none⟩), .int .i64 (aj.length : Int)] ?_; (with_reducible refine (spec_l1Cur_pick.calls g s0_0 aX aY (aj.length : Int) aC et eu w0 _ ?_ ?_ vW.out).mono ?_); exact (Z3 HI0); exact Z8; rintro e w100 ⟨rfl, hi, hb, hk⟩; refine ⟨_, rfl, ?_⟩; refine k4_ (Kd.R_mono (Kd.R_keep (IsS47.apart (show IsS47 w0 _ g s0_0 aX aY from Z3 HI0) (Z2 ae) (by decide)) hk (fun _ h => h.2)) (fun _ h => h.1)) (KeepBut.trans (Z7) hk (.inl rfl)) (hb) (hi) ?_; clear ae HK HB HI0; intro ae HK HB HI0; (try clear hb hk hi); have cL : 0 ≤ (aC : Int) := of_decide_eq_true (Z12); have cM : aC < (aj.length : Int) := of_decide_eq_true (Z12); obtain ⟨ir, e247, cN, cO, cP⟩ := at_T33 (Kd.R_reads' ae.out).2.2 aC cL cM; cases e247; replace cL := eq_true cL; replace cM := eq_true cM) | ((with_reducible refine gate_callee (f := 46) rfl ?_); refine gl_ 58 Tryd.func46 #[.pointer (some ⟨g, 0, none⟩), .int .i64 36] ?_; (with_reducible refine (spec_l1Cur_pick.calls g s0_0 et eu 36 b5 cJ cK w0 _ ?_ ?_ qU.out).mono ?_); exact (Z3 HI0); exact Z8; rintro e lb ⟨rfl, hi, hb, hk⟩; refine ⟨_, rfl, ?_⟩; refine k4_ (Kd.R_mono (Kd.R_keep (IsS47.apart (show IsS47 w0 _ g s0_0 et eu from Z3 HI0) (Z2 ae) (by decide)) hk (fun _ h => h.2)) (fun _ h => h.1)) (KeepBut.trans (Z7) hk (.inl rfl)) (hb) (hi) ?_; clear ae HK HB HI0; intro ae HK HB HI0; (try clear hb hk hi); have yj : 0 ≤ (aC : Int) := of_decide_eq_true (Z12); have yk : (aC : Int) < ((aj.length : Int) : Int) := of_decide_eq_true (Z12); obtain ⟨go97, co97, xM, xN, gl97, cl97, HG97⟩ := Kd.R_form ae.out (by omega); (first | cases xM | (injection xM with ea_ en_ ec_; (first | subst ea_ | (injection ea_ with ea_; subst ea_)); subst ec_; clear en_)); have GB97 := Aside0.mk xN; have GG97 := Aside0.mk HG97; clear xN gl97 HG97; (first | simp only [add_plain] at cN | skip); (first | simp only [add_plain] at cO | skip); (first | simp only [add_plain] at cP | skip); obtain ⟨ce97, hcl97, hM97, hcc97, hfr97⟩ := Kd.R_elem ae.out z33 (aC : Int) yj yk; obtain rfl := k33_openM hM97; have hx97_0 : lb.cell? ⟨go97, (aC : Int).toNat * 3, none⟩ = some (.int .i64 ((rd_T33 aj aC).f0)) := hcc97 0 _ rfl; have hx97_1 : lb.cell? ⟨go97, (aC : Int).toNat * 3 + 1, none⟩ = some (.int .i64 ((rd_T33 aj aC).f1)) := hcc97 1 _ rfl; have hx97_2 : lb.cell? ⟨go97, (aC : Int).toNat * 3 + 2, none⟩ = some (.int .i64 ((rd_T33 aj aC).f2)) := hcc97 2 _ rfl; have hf97_0 : lb.frozen? ⟨go97, (aC : Int).toNat * 3, none⟩ = false := hfr97 0; have hf97_1 : lb.frozen? ⟨go97, (aC : Int).toNat * 3 + 1, none⟩ = false := hfr97 1; have hf97_2 : lb.frozen? ⟨go97, (aC : Int).toNat * 3 + 2, none⟩ = false := hfr97 2; clear hcl97 hcc97 hfr97 hM97; replace yj := eq_true yj; replace yk := eq_true yk) | ((with_reducible refine gate_dst (N := 63) rfl ?_); refine Kd.R_lit (Kd.int .i64) _ 3 ?hg (N := 63) ?hd (xs := ([(-1), 19, 20] : List Int)) (inner := [.int .i64 (-1), .int .i64 19, .int .i64 20]) (ok := fun _ => True) (okp := fun _ => True) ?hr ?hp (fun _ hk => hk) trivial (Below.refl _ _) (Nat.le_refl _) (by simp) ?_; (case hd => rfl); (case hg => rfl); (case hr => exact Z34); (case hp => exact (Reps.one (show Kd.M (Kd.int .i64) _ _ _ (-1) [.int .i64 (-1)] from rfl) (Reps.one (show Kd.M (Kd.int .i64) _ _ _ 19 [.int .i64 19] from rfl) (Reps.one (show Kd.M (Kd.int .i64) _ _ _ 20 [.int .i64 20] from rfl) (Reps.none _ _))))); intro v252 w102 ho103 hb hg_ hnew_; clear hg_ hnew_; (first | rw [← tM.out] at ho103 | (simp only [Int.reduceToNat] at ho103; rw [← tM.out] at ho103)); refine k5_ (Ya_ ae) (Kd.R_lower ho103 (keep_size (w := w) (g := g) (row := none) (Z7))) (IsS47.below (Z3 HI0) hb) (KeepBut.trans (Z7) (KeepBut.of_below hb g none) (.inl rfl)) (below_step (Z8) hb) ?_; clear ae HI0 HK HB; intro ae eY HI0 HK HB; clear hb ho103; obtain ⟨Ao104, co104, eo104⟩ := Kd.R_slice eY.out; subst eo104) | ((with_reducible refine gate_callee (f := 53) rfl ?_); refine gl_ 64 Tryd.func53 #[.pointer (some ⟨g, 0, none⟩), .slice Ao104 vv.length co104] ?_; (with_reducible refine (spec_l1Cur_among.calls g s0_0 cJ cK _ _ vv oo xI xJ w0 _ ?_ ?_ ?_ ?_ ?_ A98.out).mono ?_); exact (Z3 HI0); exact Z8; exact (Z4 eY); exact (Kd.R_reads' eY.out).2.1; exact far_slice (IsS47.own_ne HI0.out eY.out (by decide)); rintro e vx ⟨rfl, hi, hb, hk⟩; refine ⟨_, rfl, ?_⟩; refine k5_ (Kd.R_mono (Kd.R_keep (IsS47.apart (show IsS47 w0 _ g s0_0 cJ cK from Z3 HI0) (Z2 ae) (by decide)) hk (fun _ h => h.2)) (fun _ h => h.1)) (Kd.R_mono (Kd.R_keep (IsS47.apart (show IsS47 w0 _ g s0_0 cJ cK from Z3 HI0) (Z2 eY) (by decide)) hk (fun _ h => h.2)) (fun _ h => h.1)) (KeepBut.trans (Z7) hk (.inl rfl)) (hb) (hi) ?_; clear ae eY HK HB HI0; intro ae eY HK HB HI0; (try clear hb hk hi); have HX106 := Aside0.mk (show Kd.R k33 33 vx w.heap.size (fun _ => True) (.slice (some ⟨go97, 0, none⟩) aj.length vw) aj from (Z2 ae)); obtain ⟨ce106, hcl106, hM106, hcc106, hfr106⟩ := Kd.R_elem HX106.out z33 (aC : Int) (of_decide_eq_true (Z12)) (Z55); obtain rfl := k33_openM hM106; have HP106 := Kd.R_seg HX106.out (aC : Int) (of_decide_eq_true (Z12)) (Z55) (seg := [.int .i64 oo]) (j := 0) hcl106 hcc106 (show 1 ≤ 3 from by decide) (x' := (⟨oo, (rd_T33 aj aC).f1, (rd_T33 aj aC).f2⟩ : S33)) (k33_mkM _ _ _ (⟨oo, (rd_T33 aj aC).f1, (rd_T33 aj aC).f2⟩ : S33) ) (fun _ hk => hk); have nM := hcc106 0 _ rfl; (try simp only [show (k33).sz = 3 from rfl, Nat.mul_one, Nat.add_zero] at nM); have hf106_0 := hfr106 0; (try simp only [show (k33).sz = 3 from rfl, Nat.mul_one, Nat.add_zero] at hf106_0); clear hcl106 hcc106 hfr106 hM106) | ((with_reducible refine gate_store (t := 3) (p := 66) rfl ?_); refine store_event (t := 3) (p := 66) (v := ?vo_w107) (w1 := (vx.setCell ⟨go97, (aC : Int).toNat * 3, none⟩ (.int .i64 oo))) ?hg ?ho ?hn ?hr ?_; (case ho => rfl); (case hg => rfl); (case hn => rfl); (case hr => exact Z34); intro vy hw; have hg : vx.grownBy vy (some go97) := (by rw [hw]; exact HP106.2); have hp_ : Kd.R k33 33 vy w.heap.size (fun _ => True) (.slice (some ⟨go97, 0, none⟩) aj.length vw) xL := (by rw [hw, Ny257.out]; exact HP106.1); clear HP106; refine k5_ (hp_) (IsS47.grown (Z3 HI0) hg (IsS47.own_ne HI0.out ae.out (by decide))) (Kd.R_over' (v := (.slice (some ⟨go97, 0, none⟩) aj.length vw)) (Z2 eY) (Kd.R_typed ae.out) (by decide) hg) ((by rw [hw]; exact below_set (HB.out) (Nat.le_trans HL.out GB97.out) : Below w0.heap.size w0 vy)) (KeepBut.trans (Z7) (KeepBut.of_grown hg g) (Kd.R_base2 ae.out)) ?_; clear ae HI0 eY HB HK; intro ae HI0 eY HB HK; clear hg hw hp_))
           go_ret
           exact ⟨_, Z11, Z2 ae, Z3 HI0, Z8, Z7⟩
          rw [if_neg c96] at H
          have tK : (b5 == 0) = false := beq_eq_false_iff_ne.mpr c96
          have tL : (b5 != 0) = true := bne_iff_ne.mpr c96
          by_cases c108 : b5 = 1
          ·rw [if_pos c108] at H
           have qA : (b5 == 1) = true := beq_iff_eq.mpr c108
           have qB : (b5 != 1) = false := bne_eq_false_iff_eq.mpr c108
           clear c108
           obtain ⟨vz, lN⟩ : ∃ y_ : List Int, y_ = (([(-1), 359, 360] : List Int)) := ⟨_, rfl⟩
           replace H : ((spec_l1Cur_among.f s0_0 cJ cK vz).bind fun io => (some ((aj.set (aC : Int).toNat (⟨(rd_T33 aj aC).f0, io.1, (rd_T33 aj aC).f2⟩ : S33)), io.2.1, io.2.2))) = some (r1, r2, r3) := by first | (rw [lN]; with_reducible exact H) | (have H2_ := (Option.bind_some _ _).symm.trans H; rw [lN]; with_reducible exact H2_) | (have H2_ := (Option.bind_some _ _).symm.trans H; with_reducible exact H2_) | with_reducible exact H | (rw [lN]; exact H) | exact H
           have tN := Aside0.mk lN
           clear lN
           replace H := Option.bind_eq_some_iff.mp H
           obtain ⟨⟨oq, xO, xP⟩, tO, H⟩ := H
           (try dsimp only at H)
           have iF := Aside0.mk tO
           clear tO
           obtain ⟨xQ, lO⟩ : ∃ y_ : List (S33), y_ = (aj.set (aC : Int).toNat (⟨(rd_T33 aj aC).f0, oq, (rd_T33 aj aC).f2⟩ : S33)) := ⟨_, rfl⟩
           replace H : (some (xQ, xO, xP)) = some (r1, r2, r3) := by first | (rw [lO]; with_reducible exact H) | (have H2_ := (Option.bind_some _ _).symm.trans H; rw [lO]; with_reducible exact H2_) | (have H2_ := (Option.bind_some _ _).symm.trans H; with_reducible exact H2_) | with_reducible exact H | (rw [lO]; exact H) | exact H
           have Ny264 := Aside0.mk lO
           clear lO
           simp only [Option.some.injEq, Prod.mk.injEq] at H
           obtain ⟨rfl, rfl, rfl⟩ := H
           obtain ⟨Ao111, qC, eo111⟩ := Kd.R_slice ae.out
           subst eo111
           go_wp2_with (first | ((with_reducible refine gate_callee (f := 46) rfl ?_); refine gl_ 55 Tryd.func46 #[.pointer (some ⟨g, 0, none⟩), .int .i64 (aj.length : Int)] ?_; (with_reducible refine (spec_l1Cur_pick.calls g s0_0 aX aY (aj.length : Int) aC et eu w0 _ ?_ ?_ vW.out).mono ?_); exact (Z3 HI0); exact Z8; rintro e w112 ⟨rfl, hi, hb, hk⟩; refine ⟨_, rfl, ?_⟩; refine k4_ (Kd.R_mono (Kd.R_keep (IsS47.apart (show IsS47 w0 _ g s0_0 aX aY from Z3 HI0) (Z2 ae) (by decide)) hk (fun _ h => h.2)) (fun _ h => h.1)) (KeepBut.trans (Z7) hk (.inl rfl)) (hb) (hi) ?_; clear ae HK HB HI0; intro ae HK HB HI0; (try clear hb hk hi); have cL : 0 ≤ (aC : Int) := of_decide_eq_true (Z12); have cM : aC < (aj.length : Int) := of_decide_eq_true (Z12); obtain ⟨ir, e247, cN, cO, cP⟩ := at_T33 (Kd.R_reads' ae.out).2.2 aC cL cM; cases e247; replace cL := eq_true cL; replace cM := eq_true cM) | ((with_reducible refine gate_callee (f := 46) rfl ?_); refine gl_ 58 Tryd.func46 #[.pointer (some ⟨g, 0, none⟩), .int .i64 36] ?_; (with_reducible refine (spec_l1Cur_pick.calls g s0_0 et eu 36 b5 cJ cK w0 _ ?_ ?_ qU.out).mono ?_); exact (Z3 HI0); exact Z8; rintro e ot ⟨rfl, hi, hb, hk⟩; refine ⟨_, rfl, ?_⟩; refine k4_ (Kd.R_mono (Kd.R_keep (IsS47.apart (show IsS47 w0 _ g s0_0 et eu from Z3 HI0) (Z2 ae) (by decide)) hk (fun _ h => h.2)) (fun _ h => h.1)) (KeepBut.trans (Z7) hk (.inl rfl)) (hb) (hi) ?_; clear ae HK HB HI0; intro ae HK HB HI0; (try clear hb hk hi); have rH : 0 ≤ (aC : Int) := of_decide_eq_true (Z12); have rI : (aC : Int) < ((aj.length : Int) : Int) := of_decide_eq_true (Z12); obtain ⟨go109, co109, tP, aD, gl109, cl109, HG109⟩ := Kd.R_form ae.out (by omega); (first | cases tP | (injection tP with ea_ en_ ec_; (first | subst ea_ | (injection ea_ with ea_; subst ea_)); subst ec_; clear en_)); have GB109 := Aside0.mk aD; have GG109 := Aside0.mk HG109; clear aD gl109 HG109; (first | simp only [add_plain] at cN | skip); (first | simp only [add_plain] at cO | skip); (first | simp only [add_plain] at cP | skip); obtain ⟨ce109, hcl109, hM109, hcc109, hfr109⟩ := Kd.R_elem ae.out z33 (aC : Int) rH rI; obtain rfl := k33_openM hM109; have hx109_0 : ot.cell? ⟨go109, (aC : Int).toNat * 3, none⟩ = some (.int .i64 ((rd_T33 aj aC).f0)) := hcc109 0 _ rfl; have hx109_1 : ot.cell? ⟨go109, (aC : Int).toNat * 3 + 1, none⟩ = some (.int .i64 ((rd_T33 aj aC).f1)) := hcc109 1 _ rfl; have hx109_2 : ot.cell? ⟨go109, (aC : Int).toNat * 3 + 2, none⟩ = some (.int .i64 ((rd_T33 aj aC).f2)) := hcc109 2 _ rfl; have hf109_0 : ot.frozen? ⟨go109, (aC : Int).toNat * 3, none⟩ = false := hfr109 0; have hf109_1 : ot.frozen? ⟨go109, (aC : Int).toNat * 3 + 1, none⟩ = false := hfr109 1; have hf109_2 : ot.frozen? ⟨go109, (aC : Int).toNat * 3 + 2, none⟩ = false := hfr109 2; clear hcl109 hcc109 hfr109 hM109; replace rH := eq_true rH; replace rI := eq_true rI) | ((with_reducible refine gate_dst (N := 71) rfl ?_); refine Kd.R_lit (Kd.int .i64) _ 3 ?hg (N := 71) ?hd (xs := ([(-1), 359, 360] : List Int)) (inner := [.int .i64 (-1), .int .i64 359, .int .i64 360]) (ok := fun _ => True) (okp := fun _ => True) ?hr ?hp (fun _ hk => hk) trivial (Below.refl _ _) (Nat.le_refl _) (by simp) ?_; (case hd => rfl); (case hg => rfl); (case hr => exact Z34); (case hp => exact (Reps.one (show Kd.M (Kd.int .i64) _ _ _ (-1) [.int .i64 (-1)] from rfl) (Reps.one (show Kd.M (Kd.int .i64) _ _ _ 359 [.int .i64 359] from rfl) (Reps.one (show Kd.M (Kd.int .i64) _ _ _ 360 [.int .i64 360] from rfl) (Reps.none _ _))))); intro v259 w114 ho115 hb hg_ hnew_; clear hg_ hnew_; (first | rw [← tN.out] at ho115 | (simp only [Int.reduceToNat] at ho115; rw [← tN.out] at ho115)); refine k5_ (Ya_ ae) (Kd.R_lower ho115 (keep_size (w := w) (g := g) (row := none) (Z7))) (IsS47.below (Z3 HI0) hb) (KeepBut.trans (Z7) (KeepBut.of_below hb g none) (.inl rfl)) (below_step (Z8) hb) ?_; clear ae HI0 HK HB; intro ae eZ HI0 HK HB; clear hb ho115; obtain ⟨Ao116, co116, eo116⟩ := Kd.R_slice eZ.out; subst eo116) | ((with_reducible refine gate_callee (f := 53) rfl ?_); refine gl_ 72 Tryd.func53 #[.pointer (some ⟨g, 0, none⟩), .slice Ao116 vz.length co116] ?_; (with_reducible refine (spec_l1Cur_among.calls g s0_0 cJ cK _ _ vz oq xO xP w0 _ ?_ ?_ ?_ ?_ ?_ iF.out).mono ?_); exact (Z3 HI0); exact Z8; exact (Z4 eZ); exact (Kd.R_reads' eZ.out).2.1; exact far_slice (IsS47.own_ne HI0.out eZ.out (by decide)); rintro e vA ⟨rfl, hi, hb, hk⟩; refine ⟨_, rfl, ?_⟩; refine k5_ (Kd.R_mono (Kd.R_keep (IsS47.apart (show IsS47 w0 _ g s0_0 cJ cK from Z3 HI0) (Z2 ae) (by decide)) hk (fun _ h => h.2)) (fun _ h => h.1)) (Kd.R_mono (Kd.R_keep (IsS47.apart (show IsS47 w0 _ g s0_0 cJ cK from Z3 HI0) (Z2 eZ) (by decide)) hk (fun _ h => h.2)) (fun _ h => h.1)) (KeepBut.trans (Z7) hk (.inl rfl)) (hb) (hi) ?_; clear ae eZ HK HB HI0; intro ae eZ HK HB HI0; (try clear hb hk hi); have HX118 := Aside0.mk (show Kd.R k33 33 vA w.heap.size (fun _ => True) (.slice (some ⟨go109, 0, none⟩) aj.length qC) aj from (Z2 ae)); obtain ⟨ce118, hcl118, hM118, hcc118, hfr118⟩ := Kd.R_elem HX118.out z33 (aC : Int) (of_decide_eq_true (Z12)) (Z55); obtain rfl := k33_openM hM118; have HP118 := Kd.R_seg HX118.out (aC : Int) (of_decide_eq_true (Z12)) (Z55) (seg := [.int .i64 oq]) (j := 1) hcl118 hcc118 (show 2 ≤ 3 from by decide) (x' := (⟨(rd_T33 aj aC).f0, oq, (rd_T33 aj aC).f2⟩ : S33)) (k33_mkM _ _ _ (⟨(rd_T33 aj aC).f0, oq, (rd_T33 aj aC).f2⟩ : S33) ) (fun _ hk => hk); have nN := hcc118 1 _ rfl; (try simp only [show (k33).sz = 3 from rfl, Nat.mul_one, Nat.add_zero] at nN); have hf118_1 := hfr118 1; (try simp only [show (k33).sz = 3 from rfl, Nat.mul_one, Nat.add_zero] at hf118_1); clear hcl118 hcc118 hfr118 hM118) | ((with_reducible refine gate_store (t := 3) (p := 74) rfl ?_); refine store_event (t := 3) (p := 74) (v := ?vo_w119) (w1 := (vA.setCell ⟨go109, (aC : Int).toNat * 3 + 1, none⟩ (.int .i64 oq))) ?hg ?ho ?hn ?hr ?_; (case ho => rfl); (case hg => rfl); (case hn => rfl); (case hr => exact Z34); intro rk hw; have hg : vA.grownBy rk (some go109) := (by rw [hw]; exact HP118.2); have hp_ : Kd.R k33 33 rk w.heap.size (fun _ => True) (.slice (some ⟨go109, 0, none⟩) aj.length qC) xQ := (by rw [hw, Ny264.out]; exact HP118.1); clear HP118; refine k5_ (hp_) (IsS47.grown (Z3 HI0) hg (IsS47.own_ne HI0.out ae.out (by decide))) (Kd.R_over' (v := (.slice (some ⟨go109, 0, none⟩) aj.length qC)) (Z2 eZ) (Kd.R_typed ae.out) (by decide) hg) ((by rw [hw]; exact below_set (HB.out) (Nat.le_trans HL.out GB109.out) : Below w0.heap.size w0 rk)) (KeepBut.trans (Z7) (KeepBut.of_grown hg g) (Kd.R_base2 ae.out)) ?_; clear ae HI0 eZ HB HK; intro ae HI0 eZ HB HK; clear hg hw hp_))
           go_ret
           exact ⟨_, Z11, Z2 ae, Z3 HI0, Z8, Z7⟩
          rw [if_neg c108] at H
          have qA : (b5 == 1) = false := beq_eq_false_iff_ne.mpr c108
          have qB : (b5 != 1) = true := bne_iff_ne.mpr c108
          by_cases c120 : b5 = 2
          ·rw [if_pos c120] at H
           have d4 : (b5 == 2) = true := beq_iff_eq.mpr c120
           have ic : (b5 != 2) = false := bne_eq_false_iff_eq.mpr c120
           clear c120
           obtain ⟨vB, lP⟩ : ∃ y_ : List Int, y_ = (([(-1), 3, 4] : List Int)) := ⟨_, rfl⟩
           replace H : ((spec_l1Cur_among.f s0_0 cJ cK vB).bind fun ip => (some ((aj.set (aC : Int).toNat (⟨(rd_T33 aj aC).f0, (rd_T33 aj aC).f1, ip.1⟩ : S33)), ip.2.1, ip.2.2))) = some (r1, r2, r3) := by first | (rw [lP]; with_reducible exact H) | (have H2_ := (Option.bind_some _ _).symm.trans H; rw [lP]; with_reducible exact H2_) | (have H2_ := (Option.bind_some _ _).symm.trans H; with_reducible exact H2_) | with_reducible exact H | (rw [lP]; exact H) | exact H
           have tQ := Aside0.mk lP
           clear lP
           replace H := Option.bind_eq_some_iff.mp H
           obtain ⟨⟨ou, xR, xS⟩, tR, H⟩ := H
           (try dsimp only at H)
           have A122 := Aside0.mk tR
           clear tR
           obtain ⟨xT, lQ⟩ : ∃ y_ : List (S33), y_ = (aj.set (aC : Int).toNat (⟨(rd_T33 aj aC).f0, (rd_T33 aj aC).f1, ou⟩ : S33)) := ⟨_, rfl⟩
           replace H : (some (xT, xR, xS)) = some (r1, r2, r3) := by first | (rw [lQ]; with_reducible exact H) | (have H2_ := (Option.bind_some _ _).symm.trans H; rw [lQ]; with_reducible exact H2_) | (have H2_ := (Option.bind_some _ _).symm.trans H; with_reducible exact H2_) | with_reducible exact H | (rw [lQ]; exact H) | exact H
           have Ny271 := Aside0.mk lQ
           clear lQ
           simp only [Option.some.injEq, Prod.mk.injEq] at H
           obtain ⟨rfl, rfl, rfl⟩ := H
           obtain ⟨Ao123, nG, pS⟩ := Kd.R_slice ae.out
           subst pS
           go_wp2_with (first | ((with_reducible refine gate_callee (f := 46) rfl ?_); refine gl_ 55 Tryd.func46 #[.pointer (some ⟨g, 0, none⟩), .int .i64 (aj.length : Int)] ?_; (with_reducible refine (spec_l1Cur_pick.calls g s0_0 aX aY (aj.length : Int) aC et eu w0 _ ?_ ?_ vW.out).mono ?_); exact (Z3 HI0); exact Z8; rintro e w124 ⟨rfl, hi, hb, hk⟩; refine ⟨_, rfl, ?_⟩; refine k4_ (Kd.R_mono (Kd.R_keep (IsS47.apart (show IsS47 w0 _ g s0_0 aX aY from Z3 HI0) (Z2 ae) (by decide)) hk (fun _ h => h.2)) (fun _ h => h.1)) (KeepBut.trans (Z7) hk (.inl rfl)) (hb) (hi) ?_; clear ae HK HB HI0; intro ae HK HB HI0; (try clear hb hk hi); have cL : 0 ≤ (aC : Int) := of_decide_eq_true (Z12); have cM : aC < (aj.length : Int) := of_decide_eq_true (Z12); obtain ⟨ir, e247, cN, cO, cP⟩ := at_T33 (Kd.R_reads' ae.out).2.2 aC cL cM; cases e247; replace cL := eq_true cL; replace cM := eq_true cM) | ((with_reducible refine gate_callee (f := 46) rfl ?_); refine gl_ 58 Tryd.func46 #[.pointer (some ⟨g, 0, none⟩), .int .i64 36] ?_; (with_reducible refine (spec_l1Cur_pick.calls g s0_0 et eu 36 b5 cJ cK w0 _ ?_ ?_ qU.out).mono ?_); exact (Z3 HI0); exact Z8; rintro e ov ⟨rfl, hi, hb, hk⟩; refine ⟨_, rfl, ?_⟩; refine k4_ (Kd.R_mono (Kd.R_keep (IsS47.apart (show IsS47 w0 _ g s0_0 et eu from Z3 HI0) (Z2 ae) (by decide)) hk (fun _ h => h.2)) (fun _ h => h.1)) (KeepBut.trans (Z7) hk (.inl rfl)) (hb) (hi) ?_; clear ae HK HB HI0; intro ae HK HB HI0; (try clear hb hk hi); have rJ : 0 ≤ (aC : Int) := of_decide_eq_true (Z12); have rK : (aC : Int) < ((aj.length : Int) : Int) := of_decide_eq_true (Z12); obtain ⟨go121, co121, tS, tT, gl121, cl121, HG121⟩ := Kd.R_form ae.out (by omega); (first | cases tS | (injection tS with ea_ en_ ec_; (first | subst ea_ | (injection ea_ with ea_; subst ea_)); subst ec_; clear en_)); have GB121 := Aside0.mk tT; have GG121 := Aside0.mk HG121; clear tT gl121 HG121; (first | simp only [add_plain] at cN | skip); (first | simp only [add_plain] at cO | skip); (first | simp only [add_plain] at cP | skip); obtain ⟨ce121, hcl121, hM121, hcc121, hfr121⟩ := Kd.R_elem ae.out z33 (aC : Int) rJ rK; obtain rfl := k33_openM hM121; have hx121_0 : ov.cell? ⟨go121, (aC : Int).toNat * 3, none⟩ = some (.int .i64 ((rd_T33 aj aC).f0)) := hcc121 0 _ rfl; have hx121_1 : ov.cell? ⟨go121, (aC : Int).toNat * 3 + 1, none⟩ = some (.int .i64 ((rd_T33 aj aC).f1)) := hcc121 1 _ rfl; have hx121_2 : ov.cell? ⟨go121, (aC : Int).toNat * 3 + 2, none⟩ = some (.int .i64 ((rd_T33 aj aC).f2)) := hcc121 2 _ rfl; have hf121_0 : ov.frozen? ⟨go121, (aC : Int).toNat * 3, none⟩ = false := hfr121 0; have hf121_1 : ov.frozen? ⟨go121, (aC : Int).toNat * 3 + 1, none⟩ = false := hfr121 1; have hf121_2 : ov.frozen? ⟨go121, (aC : Int).toNat * 3 + 2, none⟩ = false := hfr121 2; clear hcl121 hcc121 hfr121 hM121; replace rJ := eq_true rJ; replace rK := eq_true rK) | ((with_reducible refine gate_dst (N := 79) rfl ?_); refine Kd.R_lit (Kd.int .i64) _ 3 ?hg (N := 79) ?hd (xs := ([(-1), 3, 4] : List Int)) (inner := [.int .i64 (-1), .int .i64 3, .int .i64 4]) (ok := fun _ => True) (okp := fun _ => True) ?hr ?hp (fun _ hk => hk) trivial (Below.refl _ _) (Nat.le_refl _) (by simp) ?_; (case hd => rfl); (case hg => rfl); (case hr => exact Z34); (case hp => exact (Reps.one (show Kd.M (Kd.int .i64) _ _ _ (-1) [.int .i64 (-1)] from rfl) (Reps.one (show Kd.M (Kd.int .i64) _ _ _ 3 [.int .i64 3] from rfl) (Reps.one (show Kd.M (Kd.int .i64) _ _ _ 4 [.int .i64 4] from rfl) (Reps.none _ _))))); intro v266 w126 ho127 hb hg_ hnew_; clear hg_ hnew_; (first | rw [← tQ.out] at ho127 | (simp only [Int.reduceToNat] at ho127; rw [← tQ.out] at ho127)); refine k5_ (Ya_ ae) (Kd.R_lower ho127 (keep_size (w := w) (g := g) (row := none) (Z7))) (IsS47.below (Z3 HI0) hb) (KeepBut.trans (Z7) (KeepBut.of_below hb g none) (.inl rfl)) (below_step (Z8) hb) ?_; clear ae HI0 HK HB; intro ae e0 HI0 HK HB; clear hb ho127; obtain ⟨Ao128, co128, eo128⟩ := Kd.R_slice e0.out; subst eo128) | ((with_reducible refine gate_callee (f := 53) rfl ?_); refine gl_ 80 Tryd.func53 #[.pointer (some ⟨g, 0, none⟩), .slice Ao128 vB.length co128] ?_; (with_reducible refine (spec_l1Cur_among.calls g s0_0 cJ cK _ _ vB ou xR xS w0 _ ?_ ?_ ?_ ?_ ?_ A122.out).mono ?_); exact (Z3 HI0); exact Z8; exact (Z4 e0); exact (Kd.R_reads' e0.out).2.1; exact far_slice (IsS47.own_ne HI0.out e0.out (by decide)); rintro e vC ⟨rfl, hi, hb, hk⟩; refine ⟨_, rfl, ?_⟩; refine k5_ (Kd.R_mono (Kd.R_keep (IsS47.apart (show IsS47 w0 _ g s0_0 cJ cK from Z3 HI0) (Z2 ae) (by decide)) hk (fun _ h => h.2)) (fun _ h => h.1)) (Kd.R_mono (Kd.R_keep (IsS47.apart (show IsS47 w0 _ g s0_0 cJ cK from Z3 HI0) (Z2 e0) (by decide)) hk (fun _ h => h.2)) (fun _ h => h.1)) (KeepBut.trans (Z7) hk (.inl rfl)) (hb) (hi) ?_; clear ae e0 HK HB HI0; intro ae e0 HK HB HI0; (try clear hb hk hi); have HX130 := Aside0.mk (show Kd.R k33 33 vC w.heap.size (fun _ => True) (.slice (some ⟨go121, 0, none⟩) aj.length nG) aj from (Z2 ae)); obtain ⟨ce130, hcl130, hM130, hcc130, hfr130⟩ := Kd.R_elem HX130.out z33 (aC : Int) (of_decide_eq_true (Z12)) (Z55); obtain rfl := k33_openM hM130; have HP130 := Kd.R_seg HX130.out (aC : Int) (of_decide_eq_true (Z12)) (Z55) (seg := [.int .i64 ou]) (j := 2) hcl130 hcc130 (show 3 ≤ 3 from by decide) (x' := (⟨(rd_T33 aj aC).f0, (rd_T33 aj aC).f1, ou⟩ : S33)) (k33_mkM _ _ _ (⟨(rd_T33 aj aC).f0, (rd_T33 aj aC).f1, ou⟩ : S33) ) (fun _ hk => hk); have nO := hcc130 2 _ rfl; (try simp only [show (k33).sz = 3 from rfl, Nat.mul_one, Nat.add_zero] at nO); have hf130_2 := hfr130 2; (try simp only [show (k33).sz = 3 from rfl, Nat.mul_one, Nat.add_zero] at hf130_2); clear hcl130 hcc130 hfr130 hM130) | ((with_reducible refine gate_store (t := 3) (p := 82) rfl ?_); refine store_event (t := 3) (p := 82) (v := ?vo_w131) (w1 := (vC.setCell ⟨go121, (aC : Int).toNat * 3 + 2, none⟩ (.int .i64 ou))) ?hg ?ho ?hn ?hr ?_; (case ho => rfl); (case hg => rfl); (case hn => rfl); (case hr => exact Z34); intro vD hw; have hg : vC.grownBy vD (some go121) := (by rw [hw]; exact HP130.2); have hp_ : Kd.R k33 33 vD w.heap.size (fun _ => True) (.slice (some ⟨go121, 0, none⟩) aj.length nG) xT := (by rw [hw, Ny271.out]; exact HP130.1); clear HP130; refine k5_ (hp_) (IsS47.grown (Z3 HI0) hg (IsS47.own_ne HI0.out ae.out (by decide))) (Kd.R_over' (v := (.slice (some ⟨go121, 0, none⟩) aj.length nG)) (Z2 e0) (Kd.R_typed ae.out) (by decide) hg) ((by rw [hw]; exact below_set (HB.out) (Nat.le_trans HL.out GB121.out) : Below w0.heap.size w0 vD)) (KeepBut.trans (Z7) (KeepBut.of_grown hg g) (Kd.R_base2 ae.out)) ?_; clear ae HI0 e0 HB HK; intro ae HI0 e0 HB HK; clear hg hw hp_))
           go_ret
           exact ⟨_, Z11, Z2 ae, Z3 HI0, Z8, Z7⟩
          rw [if_neg c120] at H
          have d4 : (b5 == 2) = false := beq_eq_false_iff_ne.mpr c120
          have ic : (b5 != 2) = true := bne_iff_ne.mpr c120
          by_cases c132 : b5 = 3
          ·rw [if_pos c132] at H
           have qD : (b5 == 3) = true := beq_iff_eq.mpr c132
           have qE : (b5 != 3) = false := bne_eq_false_iff_eq.mpr c132
           clear c132
           by_cases c133 : 0 < (aj.length : Int)
           ·rw [if_pos c133] at H
            have c133b0 : decide (0 < (aj.length : Int)) = true := decide_eq_true c133
            have c133b1 : decide (0 < aj.length) = true := decide_eq_true (by omega)
            clear c133
            obtain ⟨jy, lR⟩ : ∃ y_ : List (S33), y_ = (([(⟨(rd_T33 aj 0).f0, (rd_T33 aj 0).f1, (rd_T33 aj 0).f2⟩ : S33)] : List (S33))) := ⟨_, rfl⟩
            replace H : (if aj.length + jy.length < 5864062014805 then (some ((aj ++ jy), cJ, cK)) else (none)) = some (r1, r2, r3) := by first | (rw [lR]; with_reducible exact H) | (have H2_ := (Option.bind_some _ _).symm.trans H; rw [lR]; with_reducible exact H2_) | (have H2_ := (Option.bind_some _ _).symm.trans H; with_reducible exact H2_) | with_reducible exact H | (rw [lR]; exact H) | exact H
            have tU := Aside0.mk lR
            clear lR
            by_cases c134 : aj.length + jy.length < 5864062014805
            ·rw [if_pos c134] at H
             have LMc134 := Aside0.mk c134
             clear c134
             obtain ⟨y276, lS⟩ : ∃ y_ : List (S33), y_ = (aj ++ jy) := ⟨_, rfl⟩
             replace H : (some (y276, cJ, cK)) = some (r1, r2, r3) := by first | (rw [lS]; with_reducible exact H) | (have H2_ := (Option.bind_some _ _).symm.trans H; rw [lS]; with_reducible exact H2_) | (have H2_ := (Option.bind_some _ _).symm.trans H; with_reducible exact H2_) | with_reducible exact H | (rw [lS]; exact H) | exact H
             have Ny276 := Aside0.mk lS
             clear lS
             simp only [Option.some.injEq, Prod.mk.injEq] at H
             obtain ⟨rfl, rfl, rfl⟩ := H
             obtain ⟨Ao135, sU, pT⟩ := Kd.R_slice ae.out
             subst pT
             go_wp2_with (first | ((with_reducible refine gate_callee (f := 46) rfl ?_); refine gl_ 55 Tryd.func46 #[.pointer (some ⟨g, 0, none⟩), .int .i64 (aj.length : Int)] ?_; (with_reducible refine (spec_l1Cur_pick.calls g s0_0 aX aY (aj.length : Int) aC et eu w0 _ ?_ ?_ vW.out).mono ?_); exact (Z3 HI0); exact Z8; rintro e w136 ⟨rfl, hi, hb, hk⟩; refine ⟨_, rfl, ?_⟩; refine k4_ (Kd.R_mono (Kd.R_keep (IsS47.apart (show IsS47 w0 _ g s0_0 aX aY from Z3 HI0) (Z2 ae) (by decide)) hk (fun _ h => h.2)) (fun _ h => h.1)) (KeepBut.trans (Z7) hk (.inl rfl)) (hb) (hi) ?_; clear ae HK HB HI0; intro ae HK HB HI0; (try clear hb hk hi); have cL : 0 ≤ (aC : Int) := of_decide_eq_true (Z12); have cM : aC < (aj.length : Int) := of_decide_eq_true (Z12); obtain ⟨ir, e247, cN, cO, cP⟩ := at_T33 (Kd.R_reads' ae.out).2.2 aC cL cM; cases e247; replace cL := eq_true cL; replace cM := eq_true cM) | ((with_reducible refine gate_callee (f := 46) rfl ?_); refine gl_ 58 Tryd.func46 #[.pointer (some ⟨g, 0, none⟩), .int .i64 36] ?_; (with_reducible refine (spec_l1Cur_pick.calls g s0_0 et eu 36 b5 cJ cK w0 _ ?_ ?_ qU.out).mono ?_); exact (Z3 HI0); exact Z8; rintro e w137 ⟨rfl, hi, hb, hk⟩; refine ⟨_, rfl, ?_⟩; refine k4_ (Kd.R_mono (Kd.R_keep (IsS47.apart (show IsS47 w0 _ g s0_0 et eu from Z3 HI0) (Z2 ae) (by decide)) hk (fun _ h => h.2)) (fun _ h => h.1)) (KeepBut.trans (Z7) hk (.inl rfl)) (hb) (hi) ?_; clear ae HK HB HI0; intro ae HK HB HI0; (try clear hb hk hi); have rL : 0 ≤ (0 : Int) := (by omega); have rM : 0 < (aj.length : Int) := of_decide_eq_true (Z12); obtain ⟨ad272, e272, gT, gU, gV⟩ := at_T33 (Kd.R_reads' ae.out).2.2 0 rL rM; obtain rfl : ir = ad272 := (by injection e272); have qi272 : (0 < aj.length) = True := eq_true (by omega); (try rw [show ((0 : Int)).toNat = 0 from rfl] at gT); (try rw [show 0 * 3 = 0 from rfl] at gT); (try rw [Addr.add_zero'] at gT); (try rw [show ((0 : Int)).toNat = 0 from rfl] at gU); (try rw [show 0 * 3 = 0 from rfl] at gU); (try rw [Addr.add_zero'] at gU); (try rw [show ((0 : Int)).toNat = 0 from rfl] at gV); (try rw [show 0 * 3 = 0 from rfl] at gV); (try rw [Addr.add_zero'] at gV); replace rL := eq_true rL; replace rM := eq_true rM) | ((with_reducible refine gate_dst (N := 89) rfl ?_); refine Kd.R_lit k33 _ 33 ?hg (N := 89) ?hd (xs := ([(⟨(rd_T33 aj 0).f0, (rd_T33 aj 0).f1, (rd_T33 aj 0).f2⟩ : S33)] : List (S33))) (inner := [.int .i64 ((rd_T33 aj 0).f0), .int .i64 ((rd_T33 aj 0).f1), .int .i64 ((rd_T33 aj 0).f2)]) (ok := fun _ => True) (okp := fun _ => True) ?hr ?hp (fun _ hk => hk) trivial (Below.refl _ _) (Nat.le_refl _) (by simp) ?_; (case hd => rfl); (case hg => rfl); (case hr => exact Z34); (case hp => exact (Reps.c3 (show Kd.M k33 _ _ _ (⟨(rd_T33 aj 0).f0, (rd_T33 aj 0).f1, (rd_T33 aj 0).f2⟩ : S33) [.int .i64 ((rd_T33 aj 0).f0), .int .i64 ((rd_T33 aj 0).f1), .int .i64 ((rd_T33 aj 0).f2)] from (k33_mkM _ _ _ (⟨(rd_T33 aj 0).f0, (rd_T33 aj 0).f1, (rd_T33 aj 0).f2⟩ : S33) )) (Reps.none _ _))); intro v274 w138 ho139 hb hg_ hnew_; clear hg_ hnew_; (first | rw [← tU.out] at ho139 | (simp only [Int.reduceToNat] at ho139; rw [← tU.out] at ho139)); refine k5_ (Kd.R_elder' (Z2 ae) (Kd.R_base ho139) hb) (Kd.R_lower (Kd.R_new' ho139 (Yd_ ae)) (keep_size (w := w) (g := g) (row := none) (Z7))) (IsS47.below (Z3 HI0) hb) (KeepBut.trans (Z7) (KeepBut.of_below hb g none) (.inl rfl)) (below_step (Z8) hb) ?_; clear ae HI0 HK HB; intro ae iW HI0 HK HB; clear hb ho139; obtain ⟨pU, pV, pW⟩ := Kd.R_slice iW.out; subst pW) | ((with_reducible refine gate_builtin (b := .append) (xs := #[.tmp 85, .tmp 89]) rfl ?_); at_builtin; refine Kd.R_append_rows k33 w.heap.size rfl (.tmp 85) (.tmp 89) 24 33 (.agg #[(.int .i64 0), (.int .i64 0), (.int .i64 0)]) 24 rfl Tryd.underlying24 info33 rfl (by decide) (by omega) (.slice (some ir) aj.length sU) aj jy _ _ _ (fun k_ => some k_ ≠ (.slice pU jy.length pV : Value).ownBlock) (fun _ => False) rfl rfl ?aO ?aR (fun _ _ h => h) (fun _ h => h.elim) ?aF (Below.refl _ _) ?aS ?aL ?_; (case aR => exact Z4 iW); (case aF => exact (fun k_ hk => Kd.fresh' (Yd_ iW) k_ hk)); (case aO => exact Z111); (case aS => exact (keep_size (w := w) (g := g) (row := none) (Z7))); (case aL => exact Z82 LMc134); intro v277 w140 ho hb hg hat; rw [← Ny276.out] at ho; refine k5_ (IsS47.grown (Z3 HI0) hg (IsS47.own_ne HI0.out ae.out (by decide))) (Kd.R_after (ok := (fun _ => True)) (Z2 iW) hg hat) (below_weaken (Z8) HL.out hb) (KeepBut.trans (Z7) (KeepBut.of_grown hg g) (Kd.R_base2 ae.out)) (ho) ?_; clear HI0 iW HB HK ae; intro HI0 iW HB HK HO278; clear ho hb hg hat))
             go_ret
             exact ⟨_, Z11, Z26 HO278, Z3 HI0, Z8, Z7⟩
            rw [if_neg c134] at H
            exact absurd H (by simp)
           rw [if_neg c133] at H
           exact absurd H (by simp)
          rw [if_neg c132] at H
          have qD : (b5 == 3) = false := beq_eq_false_iff_ne.mpr c132
          have qE : (b5 != 3) = true := bne_iff_ne.mpr c132
          by_cases c142 : b5 = 4
          ·rw [if_pos c142] at H
           have qF : (b5 == 4) = true := beq_iff_eq.mpr c142
           have qG : (b5 != 4) = false := bne_eq_false_iff_eq.mpr c142
           clear c142
           have H' := Aside0.mk H
           clear H
           obtain ⟨Ao143, co143, pX⟩ := Kd.R_slice ae.out
           subst pX
           go_wp2_with (first | ((with_reducible refine gate_callee (f := 46) rfl ?_); refine gl_ 55 Tryd.func46 #[.pointer (some ⟨g, 0, none⟩), .int .i64 (aj.length : Int)] ?_; (with_reducible refine (spec_l1Cur_pick.calls g s0_0 aX aY (aj.length : Int) aC et eu w0 _ ?_ ?_ vW.out).mono ?_); exact (Z3 HI0); exact Z8; rintro e w144 ⟨rfl, hi, hb, hk⟩; refine ⟨_, rfl, ?_⟩; refine k4_ (Kd.R_mono (Kd.R_keep (IsS47.apart (show IsS47 w0 _ g s0_0 aX aY from Z3 HI0) (Z2 ae) (by decide)) hk (fun _ h => h.2)) (fun _ h => h.1)) (KeepBut.trans (Z7) hk (.inl rfl)) (hb) (hi) ?_; clear ae HK HB HI0; intro ae HK HB HI0; (try clear hb hk hi); have cL : 0 ≤ (aC : Int) := of_decide_eq_true (Z12); have cM : aC < (aj.length : Int) := of_decide_eq_true (Z12); obtain ⟨ir, e247, cN, cO, cP⟩ := at_T33 (Kd.R_reads' ae.out).2.2 aC cL cM; cases e247; replace cL := eq_true cL; replace cM := eq_true cM) | ((with_reducible refine gate_callee (f := 46) rfl ?_); refine gl_ 58 Tryd.func46 #[.pointer (some ⟨g, 0, none⟩), .int .i64 36] ?_; (with_reducible refine (spec_l1Cur_pick.calls g s0_0 et eu 36 b5 cJ cK w0 _ ?_ ?_ qU.out).mono ?_); exact (Z3 HI0); exact Z8; rintro e w145 ⟨rfl, hi, hb, hk⟩; refine ⟨_, rfl, ?_⟩; refine k4_ (Kd.R_mono (Kd.R_keep (IsS47.apart (show IsS47 w0 _ g s0_0 et eu from Z3 HI0) (Z2 ae) (by decide)) hk (fun _ h => h.2)) (fun _ h => h.1)) (KeepBut.trans (Z7) hk (.inl rfl)) (hb) (hi) ?_; clear ae HK HB HI0; intro ae HK HB HI0; (try clear hb hk hi)))
           (try simp only [Act.put, List.setIfInBounds_toArray, List.set_cons_zero, List.set_cons_succ])
           go_loopg [3, 10] bU (fun kq v3 yx w' => ∃ (fJ : List (S33)) (ek : Int), yx = .int .i64 ek ∧ Aside0 (spec_l1Cur_pins.l1 kq fJ ek s0_0 cJ cK = some (r1, r2, r3)) ∧ Aside0 (kq ≤ bU) ∧ Aside0 (Kd.R k33 33 w' w.heap.size (fun _ => True) v3 fJ) ∧ Aside0 (IsS47 w0 w' g s0_0 cJ cK) ∧ Aside0 (KeepBut w w' g none) ∧ Aside0 (Below w0.heap.size w0 w'))
           case atStart => exact ⟨(aj), (0), (Z14), H', ⟨Nat.le_refl _⟩, ⟨Z2 ae⟩, ⟨Z3 HI0⟩, ⟨Z7⟩, ⟨Z8⟩⟩
           case round =>
            clear H'
            (try clear c1); (try clear p1); (try clear q1); (try clear hx1); (try clear hf1); (try clear q2); (try clear hx2); (try clear qi2); (try clear c3); (try clear c5); (try clear p6); (try clear p9); (try clear q9); (try clear hx9); (try clear hf9); (try clear c10); (try clear p10); (try clear q10); (try clear hx10); (try clear hf10); (try clear c11); (try clear hx11); (try clear hf11); (try clear c12); (try clear p12); (try clear q12); (try clear hx12); (try clear hf12); (try clear c13); (try clear hx13); (try clear hf13); (try clear c14); (try clear p24); (try clear q24); (try clear hx24); (try clear p27); (try clear yh); (try clear hx27); (try clear qi27); (try clear c44); (try clear c46); (try clear c53); (try clear c54); (try clear yK); (try clear c91); (try clear tI); (try clear tJ); (try clear c93); (try clear pL); (try clear c94); (try clear pM); (try clear c96); (try clear tK); (try clear tL); (try clear c97); (try clear yj); (try clear yk); (try clear hx97); (try clear hf97); (try clear c106); (try clear hx106); (try clear hf106); (try clear c108); (try clear qA); (try clear qB); (try clear c109); (try clear rH); (try clear rI); (try clear hx109); (try clear hf109); (try clear c118); (try clear hx118); (try clear hf118); (try clear c120); (try clear d4); (try clear ic); (try clear c121); (try clear rJ); (try clear rK); (try clear hx121); (try clear hf121); (try clear c130); (try clear hx130); (try clear hf130); (try clear c132); (try clear qD); (try clear qE); (try clear c133); (try clear c133b0); (try clear c133b1); (try clear c134); (try clear c142); (try clear qF); (try clear qG); (try clear nM); (try clear hx109_0); (try clear hx109_1); (try clear hx109_2); (try clear nN); (try clear hx121_0); (try clear hx121_1); (try clear hx121_2); (try clear nO); (try clear cN); (try clear cO); (try clear cP); (try clear gT); (try clear gU); (try clear gV); (try clear hx97_0); (try clear hx97_1); (try clear hx97_2); (try clear cL); (try clear rL); (try clear cM); (try clear rM)
            obtain ⟨fJ, ek, rfl, HA, HK4, ae, HI0, HK, HB⟩ := hrel
            cases gk with
            | zero => exact absurd HA.out (by simp [spec_l1Cur_pins.l1])
            | succ k4 =>
             have H := HA.out
             clear HA
             simp only [spec_l1Cur_pins.l1] at H
             by_cases c146 : (fJ.length : Int) < 61
             ·rw [if_pos c146] at H
              have c146b0 : decide ((fJ.length : Int) < 61) = true := decide_eq_true c146
              have c146b1 : decide (fJ.length < 61) = true := decide_eq_true (by omega)
              clear c146
              obtain ⟨jz, lT⟩ : ∃ y_ : List (S33), y_ = (([(⟨19, wrap64 (5 * ek), 3⟩ : S33)] : List (S33))) := ⟨_, rfl⟩
              replace H : (if fJ.length + jz.length < 5864062014805 then (spec_l1Cur_pins.l1 k4 (fJ ++ jz) (wrap64 (ek + 1)) s0_0 cJ cK) else (none)) = some (r1, r2, r3) := by first | (rw [lT]; with_reducible exact H) | (have H2_ := (Option.bind_some _ _).symm.trans H; rw [lT]; with_reducible exact H2_) | (have H2_ := (Option.bind_some _ _).symm.trans H; with_reducible exact H2_) | with_reducible exact H | (rw [lT]; exact H) | exact H
              have tV := Aside0.mk lT
              clear lT
              by_cases c147 : fJ.length + jz.length < 5864062014805
              ·rw [if_pos c147] at H
               have LMc147 := Aside0.mk c147
               clear c147
               obtain ⟨xU, lU⟩ : ∃ y_ : List (S33), y_ = (fJ ++ jz) := ⟨_, rfl⟩
               replace H : (spec_l1Cur_pins.l1 k4 xU (wrap64 (ek + 1)) s0_0 cJ cK) = some (r1, r2, r3) := by first | (rw [lU]; with_reducible exact H) | (have H2_ := (Option.bind_some _ _).symm.trans H; rw [lU]; with_reducible exact H2_) | (have H2_ := (Option.bind_some _ _).symm.trans H; with_reducible exact H2_) | with_reducible exact H | (rw [lU]; exact H) | exact H
               have Ny282 := Aside0.mk lU
               clear lU
               have H' := Aside0.mk H
               clear H
               obtain ⟨Ao148, co148, eo148⟩ := Kd.R_slice ae.out
               subst eo148
               go_wp2_with (first | ((with_reducible refine gate_dst (N := 102) rfl ?_); refine Kd.R_lit k33 _ 33 ?hg (N := 102) ?hd (xs := ([(⟨19, wrap64 (5 * ek), 3⟩ : S33)] : List (S33))) (inner := [.int .i64 19, .int .i64 (wrap64 (5 * ek)), .int .i64 3]) (ok := fun _ => True) (okp := fun _ => True) ?hr ?hp (fun _ hk => hk) trivial (Below.refl _ _) (Nat.le_refl _) (by simp) ?_; (case hd => rfl); (case hg => rfl); (case hr => exact Z34); (case hp => exact (Reps.c3 (show Kd.M k33 _ _ _ (⟨19, wrap64 (5 * ek), 3⟩ : S33) [.int .i64 19, .int .i64 (wrap64 (5 * ek)), .int .i64 3] from (k33_mkM _ _ _ (⟨19, wrap64 (5 * ek), 3⟩ : S33) )) (Reps.none _ _))); intro v280 w149 ho150 hb hg_ hnew_; clear hg_ hnew_; (first | rw [← tV.out] at ho150 | (simp only [Int.reduceToNat] at ho150; rw [← tV.out] at ho150)); refine k5_ (Kd.R_elder' (Z2 ae) (Kd.R_base ho150) hb) (Kd.R_lower (Kd.R_new' ho150 (Yd_ ae)) (keep_size (w := w) (g := g) (row := none) (Z7))) (IsS47.below (Z3 HI0) hb) (KeepBut.trans (Z7) (KeepBut.of_below hb g none) (.inl rfl)) (below_step (Z8) hb) ?_; clear ae HI0 HK HB; intro ae iX HI0 HK HB; clear hb ho150; obtain ⟨Ao152, co152, eo152⟩ := Kd.R_slice iX.out; subst eo152) | ((with_reducible refine gate_builtin (b := .append) (xs := #[.tmp 98, .tmp 102]) rfl ?_); at_builtin; refine Kd.R_append_rows k33 w.heap.size rfl (.tmp 98) (.tmp 102) 24 33 (.agg #[(.int .i64 0), (.int .i64 0), (.int .i64 0)]) 24 rfl Tryd.underlying24 info33 rfl (by decide) (by omega) (.slice Ao148 fJ.length co148) fJ jz _ _ _ (fun k_ => some k_ ≠ (.slice Ao152 jz.length co152 : Value).ownBlock) (fun _ => False) rfl rfl ?aO ?aR (fun _ _ h => h) (fun _ h => h.elim) ?aF (Below.refl _ _) ?aS ?aL ?_; (case aR => exact Z4 iX); (case aF => exact (fun k_ hk => Kd.fresh' (Yd_ iX) k_ hk)); (case aO => exact Z111); (case aS => exact (keep_size (w := w) (g := g) (row := none) (Z7))); (case aL => exact Z82 LMc147); intro v283 w151 ho hb hg hat; rw [← Ny282.out] at ho; refine k5_ (IsS47.grown (Z3 HI0) hg (IsS47.own_ne HI0.out ae.out (by decide))) (Kd.R_after (ok := (fun _ => True)) (Z2 iX) hg hat) (below_weaken (Z8) HL.out hb) (KeepBut.trans (Z7) (KeepBut.of_grown hg g) (Kd.R_base2 ae.out)) (ho) ?_; clear HI0 iX HB HK ae; intro HI0 iX HB HK HO284; clear ho hb hg hat))
               go_roundg k4
               case measure => have := eS.out; have := HK2.out; have := jA.out; have := HK4.out; omega
               case rel => exact ⟨(xU), (wrap64 (ek + 1)), (Z14), H', ⟨by have := eS.out; have := HK2.out; have := jA.out; have := HK4.out; omega⟩, ⟨Z26 HO284⟩, ⟨Z3 HI0⟩, ⟨Z7⟩, ⟨Z8⟩⟩
              rw [if_neg c147] at H
              exact absurd H (by simp)
             rw [if_neg c146] at H
             have c146b0 : decide ((fJ.length : Int) < 61) = false := decide_eq_false c146
             have c146b1 : decide (fJ.length < 61) = false := decide_eq_false (by omega)
             clear c146
             simp only [Option.some.injEq, Prod.mk.injEq] at H
             obtain ⟨rfl, rfl, rfl⟩ := H
             obtain ⟨Ao153, co153, eo153⟩ := Kd.R_slice ae.out
             subst eo153
             go_wp2
             go_ret
             exact ⟨_, Z11, Z2 ae, Z3 HI0, Z8, Z7⟩
          rw [if_neg c142] at H
          have qF : (b5 == 4) = false := beq_eq_false_iff_ne.mpr c142
          have qG : (b5 != 4) = true := bne_iff_ne.mpr c142
          simp only [Option.some.injEq, Prod.mk.injEq] at H
          obtain ⟨rfl, rfl, rfl⟩ := H
          obtain ⟨Ao154, co154, eo154⟩ := Kd.R_slice ae.out
          subst eo154
          go_wp2_with (first | ((with_reducible refine gate_callee (f := 46) rfl ?_); refine gl_ 55 Tryd.func46 #[.pointer (some ⟨g, 0, none⟩), .int .i64 (aj.length : Int)] ?_; (with_reducible refine (spec_l1Cur_pick.calls g s0_0 aX aY (aj.length : Int) aC et eu w0 _ ?_ ?_ vW.out).mono ?_); exact (Z3 HI0); exact Z8; rintro e w155 ⟨rfl, hi, hb, hk⟩; refine ⟨_, rfl, ?_⟩; refine k4_ (Kd.R_mono (Kd.R_keep (IsS47.apart (show IsS47 w0 _ g s0_0 aX aY from Z3 HI0) (Z2 ae) (by decide)) hk (fun _ h => h.2)) (fun _ h => h.1)) (KeepBut.trans (Z7) hk (.inl rfl)) (hb) (hi) ?_; clear ae HK HB HI0; intro ae HK HB HI0; (try clear hb hk hi); have cL : 0 ≤ (aC : Int) := of_decide_eq_true (Z12); have cM : aC < (aj.length : Int) := of_decide_eq_true (Z12); obtain ⟨ir, e247, cN, cO, cP⟩ := at_T33 (Kd.R_reads' ae.out).2.2 aC cL cM; cases e247; replace cL := eq_true cL; replace cM := eq_true cM) | ((with_reducible refine gate_callee (f := 46) rfl ?_); refine gl_ 58 Tryd.func46 #[.pointer (some ⟨g, 0, none⟩), .int .i64 36] ?_; (with_reducible refine (spec_l1Cur_pick.calls g s0_0 et eu 36 b5 cJ cK w0 _ ?_ ?_ qU.out).mono ?_); exact (Z3 HI0); exact Z8; rintro e w156 ⟨rfl, hi, hb, hk⟩; refine ⟨_, rfl, ?_⟩; refine k4_ (Kd.R_mono (Kd.R_keep (IsS47.apart (show IsS47 w0 _ g s0_0 et eu from Z3 HI0) (Z2 ae) (by decide)) hk (fun _ h => h.2)) (fun _ h => h.1)) (KeepBut.trans (Z7) hk (.inl rfl)) (hb) (hi) ?_; clear ae HK HB HI0; intro ae HK HB HI0; (try clear hb hk hi)))
          go_ret
          exact ⟨_, Z11, Z2 ae, Z3 HI0, Z8, Z7⟩
         rw [if_neg c94] at H
         exact absurd H (by simp)
        rw [if_neg c93] at H
        exact absurd H (by simp)
       rw [if_neg c91] at H
       have tI : decide (0 < (aj.length : Int)) = false := decide_eq_false c91
       have tJ : decide (0 < aj.length) = false := decide_eq_false (by omega)
       clear c91
       simp only [Option.some.injEq, Prod.mk.injEq] at H
       obtain ⟨rfl, rfl, rfl⟩ := H
       obtain ⟨Ao157, co157, eo157⟩ := Kd.R_slice ae.out
       subst eo157
       go_wp2
       go_ret
       exact ⟨_, Z11, Z2 ae, Z3 HI0, Z8, Z7⟩

end Go.Proofs.YtdipcpcbclobpaaDoor.PFnPins
