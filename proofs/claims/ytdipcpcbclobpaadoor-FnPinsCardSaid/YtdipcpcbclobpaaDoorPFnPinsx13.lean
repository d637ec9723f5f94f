-- written by a program of this session: the kit's print, with outer functions of the session's own (wip/ext)
import Derived.Test.YtdipcpcbclobpaaDoorPFnPinsx0
import Derived.Test.YtdipcpcbclobpaaDoorPFnPinsx2
import Derived.Test.YtdipcpcbclobpaaDoorPFnPinsx3
import Derived.Test.YtdipcpcbclobpaaDoorPFnPinsx5
import Derived.Test.YtdipcpcbclobpaaDoorPFnPinsx6
import Derived.Test.YtdipcpcbclobpaaDoorPFnPinsx7
import Derived.Test.YtdipcpcbclobpaaDoorPFnPinsx9
namespace Go.Proofs.YtdipcpcbclobpaaDoor.PFnPins
open Go.RowKit Go.Proofs.YtdipcpcbclobpaaDoorW.PrintWords Go.Proofs.YtdipcpcbclobpaaDoorW.PrintLast Go.Proofs.YtdipcpcbclobpaaDoorW.PrintMore
attribute [local go_sem] max2_int min2_int max_two min_two max_three min_three max_four min_four   -- for this text's walks alone
set_option linter.unusedVariables false
set_option linter.unusedSimpArgs false
theorem mo13_ {p : Prop} (h : p := by repeat' first | (with_reducible first | apply ih0 | apply ih0 | apply ih1 | apply ih1 | apply spec_DrawArePins.mono | apply spec_DrawArePins.mono | apply spec_cyGood.mono | apply spec_cyGood.mono | apply spec_l1Cur_pins.mono | apply spec_l1Cur_pins.mono | exact LeO.refl _ | exact LeO.none _ | refine LeO.ite ?_ ?_ | refine LeO.bind ?_ (fun _ => ?_)) | exact LeO.none _ | refine LeO.ite ?_ ?_ | refine LeO.bind ?_ (fun _ => ?_)) : p := h

/-! ### spec_NextPlayed: function 21 -/
mutual
def spec_NextPlayed.j0 : Nat → List (S33) → Int → Int → Bool → Option (Int × Bool)
 | 0, _, _, _, _ => none
 | k + 1, x0, x1, x2, x24 => if x24 = true then (some (0, false)) else (spec_NextPlayed.l0 k x1 x2 (-1) x0 (x0.length : Int) 0)
def spec_NextPlayed.l0 : Nat → Int → Int → Int → List (S33) → Int → Int → Option (Int × Bool)
 | 0, _, _, _, _, _, _ => none
 | k + 1, x1, x2, x8, x25, x26, x27 => if x27 < x26 then (if 0 ≤ x27 then (if x27 < (x25.length : Int) then (if ((rd_T33 x25 x27).f2) = x1 then (if x8 < 0 then (spec_NextPlayed.l0 k x1 x2 (Int.tmod (wrap64 ((wrap64 (((rd_T33 x25 x27).f1) - x2)) + 360)) 360) x25 x26 (wrap64 (x27 + 1))) else (if (Int.tmod (wrap64 ((wrap64 (((rd_T33 x25 x27).f1) - x2)) + 360)) 360) < x8 then (spec_NextPlayed.l0 k x1 x2 (Int.tmod (wrap64 ((wrap64 (((rd_T33 x25 x27).f1) - x2)) + 360)) 360) x25 x26 (wrap64 (x27 + 1))) else (spec_NextPlayed.l0 k x1 x2 x8 x25 x26 (wrap64 (x27 + 1))))) else (spec_NextPlayed.l0 k x1 x2 x8 x25 x26 (wrap64 (x27 + 1)))) else (none)) else (none)) else (if x8 < 0 then (some (0, false)) else (some (x8, true)))
end
def spec_NextPlayed.f (k : Nat) (l0 : List (S33)) (a1 : Int) (a2 : Int) : Option (Int × Bool) := (spec_cyGood.f k l0).bind fun pm => (if pm = true then ((spec_cyShift.f a1).bind fun pn => (if pn = true then ((spec_cyAngle.f a2).bind fun n3 => (spec_NextPlayed.j0 k l0 a1 a2 (!n3))) else (spec_NextPlayed.j0 k l0 a1 a2 true))) else (spec_NextPlayed.j0 k l0 a1 a2 true))
theorem spec_NextPlayed.mono_l : ∀ k, (∀ y0 y1 y2 y3, LeO (spec_NextPlayed.j0 k y0 y1 y2 y3) (spec_NextPlayed.j0 (k + 1) y0 y1 y2 y3)) ∧ (∀ y0 y1 y2 y3 y4 y5, LeO (spec_NextPlayed.l0 k y0 y1 y2 y3 y4 y5) (spec_NextPlayed.l0 (k + 1) y0 y1 y2 y3 y4 y5))
 | 0 => ⟨fun _ _ _ _ r h => by simp [spec_NextPlayed.j0] at h, fun _ _ _ _ _ _ r h => by simp [spec_NextPlayed.l0] at h⟩
 | k + 1 => by
  obtain ⟨ih0, ih1⟩ := spec_NextPlayed.mono_l k
  refine ⟨?_, ?_⟩
  ·intro y0 y1 y2 y3
   unfold spec_NextPlayed.j0
   exact mo13_
  intro y0 y1 y2 y3 y4 y5
  unfold spec_NextPlayed.l0
  exact mo13_
theorem spec_NextPlayed.mono : ∀ a0 a1 a2 k, LeO (spec_NextPlayed.f k a0 a1 a2) (spec_NextPlayed.f (k + 1) a0 a1 a2) := by
 intro a0 a1 a2 k
 obtain ⟨ih0, ih1⟩ := spec_NextPlayed.mono_l k
 unfold spec_NextPlayed.f
 exact mo13_
set_option maxHeartbeats 8000000 in
set_option maxRecDepth 100000 in
theorem spec_NextPlayed.calls (k : Nat) (A0 : Option Addr) (c0 : Nat) (l0 : List (S33)) (a1 : Int) (a2 : Int) (r1 : Int) (r2 : Bool) (w : World) (hr0 : Kd.C k33 w A0 l0.length l0) (hc0 : l0.length ≤ c0) (h : spec_NextPlayed.f k l0 a1 a2 = some (r1, r2)) :
  Calls Tryd.prog 21 #[.slice A0 l0.length c0, .int .i64 a1, .int .i64 a2] w fun e w' => e = .returned (.tuple #[.int .i64 r1, .bool r2]) ∧ Below w.heap.size w w' := by
 have hu33 := Tryd.underlying33
 have HR0 := Aside0.mk hr0
 have HC0 := Aside0.mk hc0
 clear hr0 hc0
 have HB := Aside0.mk (Below.refl w.heap.size w)
 have H : ((spec_cyGood.f k l0).bind fun pm => (if pm = true then ((spec_cyShift.f a1).bind fun pn => (if pn = true then ((spec_cyAngle.f a2).bind fun n3 => (spec_NextPlayed.j0 k l0 a1 a2 (!n3))) else (spec_NextPlayed.j0 k l0 a1 a2 true))) else (spec_NextPlayed.j0 k l0 a1 a2 true))) = some (r1, r2) := h
 clear h
 have HC4 := Aside0.mk H
 clear H
 go_enter Tryd.func21, Tryd.ntmps21
 go_upto_region 1 with (fail)
 go_cut [24] (fun v24 wc => ∃ (kq : Nat) (nb : Bool), v24 = .bool nb ∧ Aside0 (spec_NextPlayed.j0 kq l0 a1 a2 nb = some (r1, r2)) ∧ Aside0 (kq ≤ k) ∧ Aside0 (Below w.heap.size w wc))
 case first =>
  have H := HC4.out
  clear HC4
  replace H := Option.bind_eq_some_iff.mp H
  obtain ⟨pm, dG, H⟩ := H
  (try dsimp only at H)
  have A5 := Aside0.mk dG
  clear dG
  by_cases c6 : pm = true
  ·subst c6
   rw [if_pos rfl] at H
   replace H := Option.bind_eq_some_iff.mp H
   obtain ⟨pn, ed, H⟩ := H
   (try dsimp only at H)
   have A7 := Aside0.mk ed
   clear ed
   by_cases c8 : pn = true
   ·subst c8
    rw [if_pos rfl] at H
    replace H := Option.bind_eq_some_iff.mp H
    obtain ⟨n3, jG, H⟩ := H
    (try dsimp only at H)
    have A9 := Aside0.mk jG
    clear jG
    have H' := Aside0.mk H
    clear H
    go_wp2_with (first | ((with_reducible refine gate_callee (f := 33) rfl ?_); refine gl_ 13 Tryd.func33 #[.slice A0 l0.length c0] ?_; (with_reducible refine (spec_cyGood.calls k _ _ l0 true _ ?_ ?_ A5.out).mono ?_); exact (Z16 HR0); exact HC0.out; rintro e jE ⟨rfl, hb⟩; refine ⟨_, rfl, ?_⟩; refine k1_ (below_step (Z1) hb) ?_; clear HB; intro HB; (try clear hb)) | (go_at_call 34; (with_reducible refine (spec_cyShift.calls a1 true _ A7.out).mono ?_); rintro e w' ⟨rfl, ⟨nd, rfl⟩⟩) | (go_at_call 35; (with_reducible refine (spec_cyAngle.calls a2 n3 _ A9.out).mono ?_); rintro e w' ⟨rfl, ⟨nd, rfl⟩⟩))
    go_meet
    case rel => exact ⟨_, (!n3), (Z14), H', ⟨Z56⟩, ⟨Z1⟩⟩
   replace c8 := Bool.eq_false_iff.mpr c8
   subst c8
   rw [if_neg (show ¬ (false = true) by decide)] at H
   have H' := Aside0.mk H
   clear H
   go_wp2_with (first | ((with_reducible refine gate_callee (f := 33) rfl ?_); refine gl_ 13 Tryd.func33 #[.slice A0 l0.length c0] ?_; (with_reducible refine (spec_cyGood.calls k _ _ l0 true _ ?_ ?_ A5.out).mono ?_); exact (Z16 HR0); exact HC0.out; rintro e eV ⟨rfl, hb⟩; refine ⟨_, rfl, ?_⟩; refine k1_ (below_step (Z1) hb) ?_; clear HB; intro HB; (try clear hb)) | (go_at_call 34; (with_reducible refine (spec_cyShift.calls a1 false _ A7.out).mono ?_); rintro e w' ⟨rfl, ⟨nd, rfl⟩⟩))
   go_meet
   case rel => exact ⟨_, (true), (Z14), H', ⟨Z56⟩, ⟨Z1⟩⟩
  replace c6 := Bool.eq_false_iff.mpr c6
  subst c6
  rw [if_neg (show ¬ (false = true) by decide)] at H
  have H' := Aside0.mk H
  clear H
  go_wp2_with (first | ((with_reducible refine gate_callee (f := 33) rfl ?_); refine gl_ 13 Tryd.func33 #[.slice A0 l0.length c0] ?_; (with_reducible refine (spec_cyGood.calls k _ _ l0 false _ ?_ ?_ A5.out).mono ?_); exact (Z16 HR0); exact HC0.out; rintro e oU ⟨rfl, hb⟩; refine ⟨_, rfl, ?_⟩; refine k1_ (below_step (Z1) hb) ?_; clear HB; intro HB; (try clear hb)))
  go_meet
  case rel => exact ⟨_, (true), (Z14), H', ⟨Z56⟩, ⟨Z1⟩⟩
 case rest =>
  clear HC4
  (try clear c2); (try clear p2); (try clear c3); (try clear c6); (try clear c8)
  obtain ⟨kq, nb, rfl, HA, eS, HB⟩ := hcut
  cases kq with
  | zero => exact absurd HA.out (by simp [spec_NextPlayed.j0])
  | succ gw =>
   have H := HA.out
   clear HA
   simp only [spec_NextPlayed.j0] at H
   by_cases c13 : nb = true
   ·subst c13
    rw [if_pos rfl] at H
    simp only [Option.some.injEq, Prod.mk.injEq] at H
    obtain ⟨rfl, rfl⟩ := H
    go_wp2
    go_ret2
    exact ⟨Z11, Z1⟩
   replace c13 := Bool.eq_false_iff.mpr c13
   subst c13
   rw [if_neg (show ¬ (false = true) by decide)] at H
   have H' := Aside0.mk H
   clear H
   go_wp2
   go_loopg [8, 27] gw (fun kq v8 yo w' => ∃ (ay : Int) (aq : Int), v8 = .int .i64 ay ∧ yo = .int .i64 aq ∧ Aside0 (spec_NextPlayed.l0 kq a1 a2 ay l0 (l0.length : Int) aq = some (r1, r2)) ∧ Aside0 (kq ≤ gw) ∧ Aside0 (Below w.heap.size w w'))
   case atStart => exact ⟨((-1)), (0), (Z14), (Z14), H', ⟨Nat.le_refl _⟩, ⟨Z1⟩⟩
   case round =>
    clear H'
    (try clear c1); (try clear c13)
    obtain ⟨ay, aq, rfl, rfl, HA, HK2, HB⟩ := hrel
    cases gk with
    | zero => exact absurd HA.out (by simp [spec_NextPlayed.l0])
    | succ k2 =>
     have H := HA.out
     clear HA
     simp only [spec_NextPlayed.l0] at H
     by_cases c14 : aq < (l0.length : Int)
     ·rw [if_pos c14] at H
      have fh : decide (aq < (l0.length : Int)) = true := decide_eq_true c14
      clear c14
      by_cases c15 : 0 ≤ aq
      ·rw [if_pos c15] at H
       have pj : decide (0 ≤ aq) = true := decide_eq_true c15
       clear c15
       by_cases c16 : aq < (l0.length : Int)
       ·rw [if_pos c16] at H
        have na : decide (aq < (l0.length : Int)) = true := decide_eq_true c16
        clear c16
        by_cases c17 : ((rd_T33 l0 aq).f2) = a1
        ·rw [if_pos c17] at H
         have ee : (((rd_T33 l0 aq).f2) == a1) = true := beq_iff_eq.mpr c17
         have iL : (((rd_T33 l0 aq).f2) != a1) = false := bne_eq_false_iff_eq.mpr c17
         clear c17
         by_cases c18 : ay < 0
         ·rw [if_pos c18] at H
          have jJ : decide (ay < 0) = true := decide_eq_true c18
          clear c18
          have H' := Aside0.mk H
          clear H
          have e4 : 0 ≤ (aq : Int) := of_decide_eq_true (Z12)
          have e5 : aq < (l0.length : Int) := of_decide_eq_true (Z12)
          obtain ⟨po, e482, bE, bF, bG⟩ := at_T33 HR0.out aq e4 e5
          cases e482
          replace bE := (HB.out.cell (World.block_lt_of_cell? w _ bE)).trans bE
          replace bF := (HB.out.cell (World.block_lt_of_cell? w _ bF)).trans bF
          replace bG := (HB.out.cell (World.block_lt_of_cell? w _ bG)).trans bG
          replace e4 := eq_true e4
          replace e5 := eq_true e5
          go_wp2_with (first | ((with_reducible refine gate_dst (N := 10) rfl ?_); refine bv_ 10 33 #[.int .i64 0, .int .i64 0, .int .i64 0] ?_; intro ew hg jO hbox hb; refine k4_ (below_step (Z1) hb) (hbox) ((Z23 : w.heap.size ≤ ew)) ((Z23 : w.heap.size ≤ ew)) ?_; clear HB; intro HB g9 pp mO; clear hb hbox hg; obtain ⟨gA, gB, gC, gD, gE, gF⟩ := bx3_ (w := jO) g9.out))
          go_roundg k2
          case measure => have := eS.out; have := HK2.out; omega
          case rel => exact ⟨(Int.tmod (wrap64 ((wrap64 (((rd_T33 l0 aq).f1) - a2)) + 360)) 360), (wrap64 (aq + 1)), (Z14), (Z14), H', ⟨Z74⟩, ⟨Z80⟩⟩
         rw [if_neg c18] at H
         have jJ : decide (ay < 0) = false := decide_eq_false c18
         clear c18
         by_cases c21 : (Int.tmod (wrap64 ((wrap64 (((rd_T33 l0 aq).f1) - a2)) + 360)) 360) < ay
         ·rw [if_pos c21] at H
          have pa : decide ((Int.tmod (wrap64 ((wrap64 (((rd_T33 l0 aq).f1) - a2)) + 360)) 360) < ay) = true := decide_eq_true c21
          clear c21
          have H' := Aside0.mk H
          clear H
          have e4 : 0 ≤ (aq : Int) := of_decide_eq_true (Z12)
          have e5 : aq < (l0.length : Int) := of_decide_eq_true (Z12)
          obtain ⟨po, e482, bE, bF, bG⟩ := at_T33 HR0.out aq e4 e5
          cases e482
          replace bE := (HB.out.cell (World.block_lt_of_cell? w _ bE)).trans bE
          replace bF := (HB.out.cell (World.block_lt_of_cell? w _ bF)).trans bF
          replace bG := (HB.out.cell (World.block_lt_of_cell? w _ bG)).trans bG
          replace e4 := eq_true e4
          replace e5 := eq_true e5
          go_wp2_with (first | ((with_reducible refine gate_dst (N := 10) rfl ?_); refine bv_ 10 33 #[.int .i64 0, .int .i64 0, .int .i64 0] ?_; intro ew hg r9 hbox hb; refine k4_ (below_step (Z1) hb) (hbox) ((Z23 : w.heap.size ≤ ew)) ((Z23 : w.heap.size ≤ ew)) ?_; clear HB; intro HB g9 pp mO; clear hb hbox hg; obtain ⟨hcz23_0, hcz23_1, hcz23_2, hfz23_0, hfz23_1, hfz23_2⟩ := bx3_ (w := r9) g9.out))
          go_roundg k2
          case measure => have := eS.out; have := HK2.out; omega
          case rel => exact ⟨(Int.tmod (wrap64 ((wrap64 (((rd_T33 l0 aq).f1) - a2)) + 360)) 360), (wrap64 (aq + 1)), (Z14), (Z14), H', ⟨Z74⟩, ⟨Z80⟩⟩
         rw [if_neg c21] at H
         have pa : decide ((Int.tmod (wrap64 ((wrap64 (((rd_T33 l0 aq).f1) - a2)) + 360)) 360) < ay) = false := decide_eq_false c21
         clear c21
         have H' := Aside0.mk H
         clear H
         have e4 : 0 ≤ (aq : Int) := of_decide_eq_true (Z12)
         have e5 : aq < (l0.length : Int) := of_decide_eq_true (Z12)
         obtain ⟨po, e482, bE, bF, bG⟩ := at_T33 HR0.out aq e4 e5
         cases e482
         replace bE := (HB.out.cell (World.block_lt_of_cell? w _ bE)).trans bE
         replace bF := (HB.out.cell (World.block_lt_of_cell? w _ bF)).trans bF
         replace bG := (HB.out.cell (World.block_lt_of_cell? w _ bG)).trans bG
         replace e4 := eq_true e4
         replace e5 := eq_true e5
         go_wp2_with (first | ((with_reducible refine gate_dst (N := 10) rfl ?_); refine bv_ 10 33 #[.int .i64 0, .int .i64 0, .int .i64 0] ?_; intro ew hg nZ hbox hb; refine k4_ (below_step (Z1) hb) (hbox) ((Z23 : w.heap.size ≤ ew)) ((Z23 : w.heap.size ≤ ew)) ?_; clear HB; intro HB g9 pp mO; clear hb hbox hg; obtain ⟨m3, m4, m5, m6, m7, m8⟩ := bx3_ (w := nZ) g9.out))
         go_roundg k2
         case measure => have := eS.out; have := HK2.out; omega
         case rel => exact ⟨(ay), (wrap64 (aq + 1)), (Z14), (Z14), H', ⟨Z74⟩, ⟨Z80⟩⟩
        rw [if_neg c17] at H
        have ee : (((rd_T33 l0 aq).f2) == a1) = false := beq_eq_false_iff_ne.mpr c17
        have iL : (((rd_T33 l0 aq).f2) != a1) = true := bne_iff_ne.mpr c17
        have H' := Aside0.mk H
        clear H
        have e4 : 0 ≤ (aq : Int) := of_decide_eq_true (Z12)
        have e5 : aq < (l0.length : Int) := of_decide_eq_true (Z12)
        obtain ⟨po, e482, bE, bF, bG⟩ := at_T33 HR0.out aq e4 e5
        cases e482
        replace bE := (HB.out.cell (World.block_lt_of_cell? w _ bE)).trans bE
        replace bF := (HB.out.cell (World.block_lt_of_cell? w _ bF)).trans bF
        replace bG := (HB.out.cell (World.block_lt_of_cell? w _ bG)).trans bG
        replace e4 := eq_true e4
        replace e5 := eq_true e5
        go_wp2_with (first | ((with_reducible refine gate_dst (N := 10) rfl ?_); refine bv_ 10 33 #[.int .i64 0, .int .i64 0, .int .i64 0] ?_; intro ew hg wg hbox hb; refine k4_ (below_step (Z1) hb) (hbox) ((Z23 : w.heap.size ≤ ew)) ((Z23 : w.heap.size ≤ ew)) ?_; clear HB; intro HB g9 pp mO; clear hb hbox hg; obtain ⟨hcz27_0, hcz27_1, hcz27_2, hfz27_0, hfz27_1, hfz27_2⟩ := bx3_ (w := wg) g9.out))
        go_roundg k2
        case measure => have := eS.out; have := HK2.out; omega
        case rel => exact ⟨(ay), (wrap64 (aq + 1)), (Z14), (Z14), H', ⟨Z74⟩, ⟨Z80⟩⟩
       rw [if_neg c16] at H
       exact absurd H (by simp)
      rw [if_neg c15] at H
      exact absurd H (by simp)
     rw [if_neg c14] at H
     have fh : decide (aq < (l0.length : Int)) = false := decide_eq_false c14
     clear c14
     by_cases c28 : ay < 0
     ·rw [if_pos c28] at H
      have c28b0 : decide (ay < 0) = true := decide_eq_true c28
      clear c28
      simp only [Option.some.injEq, Prod.mk.injEq] at H
      obtain ⟨rfl, rfl⟩ := H
      go_wp2
      go_ret2
      exact ⟨Z11, Z1⟩
     rw [if_neg c28] at H
     have c28b0 : decide (ay < 0) = false := decide_eq_false c28
     clear c28
     simp only [Option.some.injEq, Prod.mk.injEq] at H
     obtain ⟨rfl, rfl⟩ := H
     go_wp2
     go_ret2
     exact ⟨Z11, Z1⟩

/-! ### spec_DrawPlayedAt: function 22 -/
def spec_DrawPlayedAt.j0 : Nat → List (S33) → Bool → List Int → Int → Int → Option ((List (S33)) × Int × Int)
 | 0, _, _, _, _, _ => none
 | k + 1, x6, x19, jc, nc, ne => if x19 = true then ((spec_l1Cur_pick.f jc nc ne (x6.length : Int)).bind fun nf => (if 0 ≤ nf.1 then (if nf.1 < (x6.length : Int) then (some (x6, (rd_T33 x6 nf.1).f2, (rd_T33 x6 nf.1).f1)) else (none)) else (none))) else ((spec_l1Cur_shiftOf.f jc nc ne).bind fun pq => ((spec_l1Cur_angleOf.f jc pq.2.1 pq.2.2).bind fun bt501 => (some (x6, pq.1, bt501.1))))
def spec_DrawPlayedAt.f (k : Nat) (l0 : List Int) : Option ((List (S33)) × Int × Int) := (spec_l1Cur_pins.f k l0 0 0).bind fun cQ => (if (cQ.1.length : Int) > 0 then ((spec_l1Cur_one.f l0 cQ.2.1 cQ.2.2 2).bind fun hD => (spec_DrawPlayedAt.j0 k cQ.1 hD.1 l0 hD.2.1 hD.2.2)) else (spec_DrawPlayedAt.j0 k cQ.1 false l0 cQ.2.1 cQ.2.2))
theorem spec_DrawPlayedAt.mono_l : ∀ k, (∀ y0 y1 y2 y3 y4, LeO (spec_DrawPlayedAt.j0 k y0 y1 y2 y3 y4) (spec_DrawPlayedAt.j0 (k + 1) y0 y1 y2 y3 y4))
 | 0 => fun _ _ _ _ _ r h => by simp [spec_DrawPlayedAt.j0] at h
 | k + 1 => by
  have ih0 := spec_DrawPlayedAt.mono_l k
  ·intro y0 y1 y2 y3 y4
   unfold spec_DrawPlayedAt.j0
   exact mo13_
theorem spec_DrawPlayedAt.mono : ∀ a0 k, LeO (spec_DrawPlayedAt.f k a0) (spec_DrawPlayedAt.f (k + 1) a0) := by
 intro a0 k
 have ih0 := spec_DrawPlayedAt.mono_l k
 unfold spec_DrawPlayedAt.f
 exact mo13_
set_option maxHeartbeats 8000000 in
set_option maxRecDepth 100000 in
theorem spec_DrawPlayedAt.calls (k : Nat) (A0 : Option Addr) (c0 : Nat) (l0 : List Int) (r1 : List (S33)) (r2 : Int) (r3 : Int) (w : World) (hr0 : Kd.C (Kd.int .u8) w A0 l0.length l0) (hc0 : l0.length ≤ c0) (h : spec_DrawPlayedAt.f k l0 = some (r1, r2, r3)) :
  Calls Tryd.prog 22 #[.slice A0 l0.length c0] w fun e w' => ∃ v0_ : Value, e = .returned (.tuple #[v0_, .int .i64 r2, .int .i64 r3]) ∧ Kd.R k33 33 w' w.heap.size (fun _ => True) v0_ r1 ∧ Below w.heap.size w w' := by
 have hu47 := Tryd.underlying47
 have hu33 := Tryd.underlying33
 have HR0 := Aside0.mk hr0
 have HC0 := Aside0.mk hc0
 clear hr0 hc0
 have HB := Aside0.mk (Below.refl w.heap.size w)
 have H : ((spec_l1Cur_pins.f k l0 0 0).bind fun cQ => (if (cQ.1.length : Int) > 0 then ((spec_l1Cur_one.f l0 cQ.2.1 cQ.2.2 2).bind fun hD => (spec_DrawPlayedAt.j0 k cQ.1 hD.1 l0 hD.2.1 hD.2.2)) else (spec_DrawPlayedAt.j0 k cQ.1 false l0 cQ.2.1 cQ.2.2))) = some (r1, r2, r3) := h
 clear h
 replace H := Option.bind_eq_some_iff.mp H
 obtain ⟨⟨dA, iD, iE⟩, cr, H⟩ := H
 (try dsimp only at H)
 have A2 := Aside0.mk cr
 clear cr
 have HC3 := Aside0.mk H
 clear H
 go_enter Tryd.func22, Tryd.ntmps22
 go_upto_region 3 with (first | ((with_reducible refine gate_dst (N := 10) rfl ?_); refine bv_ 10 47 #[.slice A0 l0.length c0, .int .i64 0, .int .u64 0] ?_; intro aQ hg w4 hbox hb; refine k4_ (below_step (Z1) hb) ((show IsS47 w w4 aQ l0 0 0 from ⟨_, _, hbox, (Z23), HR0.out⟩)) ((Z23 : w.heap.size ≤ aQ)) ((Z23 : w.heap.size ≤ aQ)) ?_; clear HB; intro HB HI484 sa sb; clear hb hbox hg) | (go_at_call 28; (with_reducible refine (spec_l1Cur_pins.calls k aQ l0 0 0 dA iD iE w _ ?_ ?_ A2.out).mono ?_); exact (Z3 HI484); exact Z15; rintro e w5 ⟨uk, rfl, ho0, hi, hb, hk⟩; refine k3_ (Kd.R_lower ho0 (below_size (Z15))) (hb) (hi) ?_; clear HB HI484; intro cR HB HI484; (try clear hb hk hi ho0)))
 repeat (go_quiet (first | ((with_reducible refine gate_dst (N := 10) rfl ?_); refine bv_ 10 47 #[.slice A0 l0.length c0, .int .i64 0, .int .u64 0] ?_; intro aQ hg w4 hbox hb; refine k4_ (below_step (Z1) hb) ((show IsS47 w w4 aQ l0 0 0 from ⟨_, _, hbox, (Z23), HR0.out⟩)) ((Z23 : w.heap.size ≤ aQ)) ((Z23 : w.heap.size ≤ aQ)) ?_; clear HB; intro HB HI484 sa sb; clear hb hbox hg) | (go_at_call 28; (with_reducible refine (spec_l1Cur_pins.calls k aQ l0 0 0 dA iD iE w _ ?_ ?_ A2.out).mono ?_); exact (Z3 HI484); exact Z15; rintro e w5 ⟨uk, rfl, ho0, hi, hb, hk⟩; refine k3_ (Kd.R_lower ho0 (below_size (Z15))) (hb) (hi) ?_; clear HB HI484; intro cR HB HI484; (try clear hb hk hi ho0))); go_upto_region 3 with (first | ((with_reducible refine gate_dst (N := 10) rfl ?_); refine bv_ 10 47 #[.slice A0 l0.length c0, .int .i64 0, .int .u64 0] ?_; intro aQ hg w4 hbox hb; refine k4_ (below_step (Z1) hb) ((show IsS47 w w4 aQ l0 0 0 from ⟨_, _, hbox, (Z23), HR0.out⟩)) ((Z23 : w.heap.size ≤ aQ)) ((Z23 : w.heap.size ≤ aQ)) ?_; clear HB; intro HB HI484 sa sb; clear hb hbox hg) | (go_at_call 28; (with_reducible refine (spec_l1Cur_pins.calls k aQ l0 0 0 dA iD iE w _ ?_ ?_ A2.out).mono ?_); exact (Z3 HI484); exact Z15; rintro e w5 ⟨uk, rfl, ho0, hi, hb, hk⟩; refine k3_ (Kd.R_lower ho0 (below_size (Z15))) (hb) (hi) ?_; clear HB HI484; intro cR HB HI484; (try clear hb hk hi ho0))))
 (try simp only [Act.put, List.setIfInBounds_toArray, List.set_cons_zero, List.set_cons_succ])
 go_cut [19] (fun v19 wc => ∃ (kq : Nat) (ng : Bool) (bf : Int) (bg : Int), v19 = .bool ng ∧ Aside0 (spec_DrawPlayedAt.j0 kq dA ng l0 bf bg = some (r1, r2, r3)) ∧ Aside0 (kq ≤ k) ∧ Aside0 (Kd.R k33 33 wc w.heap.size (fun _ => True) uk dA) ∧ Aside0 (IsS47 w wc aQ l0 bf bg) ∧ Aside0 (Below w.heap.size w wc))
 case first =>
  have H := HC3.out
  clear HC3
  by_cases c6 : (dA.length : Int) > 0
  ·rw [if_pos c6] at H
   have en : decide (0 < (dA.length : Int)) = true := decide_eq_true c6
   have qZ : decide (0 < dA.length) = true := decide_eq_true (by omega)
   clear c6
   (first | rw [en] | (simp only [i64_w, i32_w]; rw [en]) | skip)
   replace H := Option.bind_eq_some_iff.mp H
   obtain ⟨⟨q3, q4, q6⟩, ed, H⟩ := H
   (try dsimp only at H)
   have A7 := Aside0.mk ed
   clear ed
   have H' := Aside0.mk H
   clear H
   obtain ⟨yI, yJ, yv⟩ := Kd.R_slice cR.out
   subst yv
   go_wp2_with (first | (go_at_call 45; (with_reducible refine (spec_l1Cur_one.calls aQ l0 iD iE 2 q3 q4 q6 w _ ?_ ?_ A7.out).mono ?_); exact (Z3 HI484); exact Z15; rintro e w9 ⟨rfl, hi, hb, hk⟩; refine k3_ (Kd.R_mono (Kd.R_keep (IsS47.apart (show IsS47 w _ aQ l0 iD iE from Z3 HI484) (Z2 cR) (by decide)) hk (fun _ h => h.2)) (fun _ h => h.1)) (hb) (hi) ?_; clear cR HB HI484; intro cR HB HI484; (try clear hb hk hi)))
   repeat (go_quiet (first | (go_at_call 45; (with_reducible refine (spec_l1Cur_one.calls aQ l0 iD iE 2 q3 q4 q6 w _ ?_ ?_ A7.out).mono ?_); exact (Z3 HI484); exact Z15; rintro e w9 ⟨rfl, hi, hb, hk⟩; refine k3_ (Kd.R_mono (Kd.R_keep (IsS47.apart (show IsS47 w _ aQ l0 iD iE from Z3 HI484) (Z2 cR) (by decide)) hk (fun _ h => h.2)) (fun _ h => h.1)) (hb) (hi) ?_; clear cR HB HI484; intro cR HB HI484; (try clear hb hk hi))); try go_wp2_with (first | (go_at_call 45; (with_reducible refine (spec_l1Cur_one.calls aQ l0 iD iE 2 q3 q4 q6 w _ ?_ ?_ A7.out).mono ?_); exact (Z3 HI484); exact Z15; rintro e w9 ⟨rfl, hi, hb, hk⟩; refine k3_ (Kd.R_mono (Kd.R_keep (IsS47.apart (show IsS47 w _ aQ l0 iD iE from Z3 HI484) (Z2 cR) (by decide)) hk (fun _ h => h.2)) (fun _ h => h.1)) (hb) (hi) ?_; clear cR HB HI484; intro cR HB HI484; (try clear hb hk hi))))
   go_meet
   case rel => exact ⟨_, (q3), (q4), (q6), (Z14), H', ⟨Z56⟩, ⟨Z2 cR⟩, ⟨Z3 HI484⟩, ⟨Z15⟩⟩
  rw [if_neg c6] at H
  have en : decide (0 < (dA.length : Int)) = false := decide_eq_false c6
  have qZ : decide (0 < dA.length) = false := decide_eq_false (by omega)
  clear c6
  (first | rw [en] | (simp only [i64_w, i32_w]; rw [en]) | skip)
  have H' := Aside0.mk H
  clear H
  obtain ⟨gi, gj, mr⟩ := Kd.R_slice cR.out
  subst mr
  go_wp2
  repeat (go_quiet (fail); try go_wp2)
  go_meet
  case rel => exact ⟨_, (false), (iD), (iE), (Z14), H', ⟨Z56⟩, ⟨Z2 cR⟩, ⟨Z3 HI484⟩, ⟨Z15⟩⟩
 case rest =>
  clear HC3
  (try clear c2); (try clear p2); (try clear c6); (try clear en); (try clear qZ)
  obtain ⟨kq, ng, bf, bg, rfl, HA, HJ2, bw, HI484, HB⟩ := hcut
  cases kq with
  | zero => exact absurd HA.out (by simp [spec_DrawPlayedAt.j0])
  | succ kj2 =>
   have H := HA.out
   clear HA
   simp only [spec_DrawPlayedAt.j0] at H
   by_cases c11 : ng = true
   ·subst c11
    rw [if_pos rfl] at H
    replace H := Option.bind_eq_some_iff.mp H
    obtain ⟨⟨d3, oG, oH⟩, jS, H⟩ := H
    (try dsimp only at H)
    have sc := Aside0.mk jS
    clear jS
    by_cases c13 : 0 ≤ d3
    ·rw [if_pos c13] at H
     have hF : decide (0 ≤ d3) = true := decide_eq_true c13
     clear c13
     by_cases c14 : d3 < (dA.length : Int)
     ·rw [if_pos c14] at H
      have fh : decide (d3 < (dA.length : Int)) = true := decide_eq_true c14
      clear c14
      simp only [Option.some.injEq, Prod.mk.injEq] at H
      obtain ⟨rfl, rfl, rfl⟩ := H
      obtain ⟨ul, um, pr⟩ := Kd.R_slice bw.out
      subst pr
      go_wp2_with (first | (go_at_call 46; (with_reducible refine (spec_l1Cur_pick.calls aQ l0 bf bg (dA.length : Int) d3 oG oH w _ ?_ ?_ sc.out).mono ?_); exact (Z3 HI484); exact Z15; rintro e oD ⟨rfl, hi, hb, hk⟩; refine k3_ (Kd.R_mono (Kd.R_keep (IsS47.apart (show IsS47 w _ aQ l0 bf bg from Z3 HI484) (Z2 bw) (by decide)) hk (fun _ h => h.2)) (fun _ h => h.1)) (hb) (hi) ?_; clear bw HB HI484; intro bw HB HI484; (try clear hb hk hi); have hG : 0 ≤ (d3 : Int) := of_decide_eq_true (Z12); have hH : d3 < (dA.length : Int) := of_decide_eq_true (Z12); obtain ⟨sd, e496, nh, ni, nj⟩ := at_T33 (Kd.R_reads' bw.out).2.2 d3 hG hH; cases e496; replace hG := eq_true hG; replace hH := eq_true hH) | ((with_reducible refine gate_dst (N := 7) rfl ?_); refine bv_ 7 33 #[.int .i64 0, .int .i64 0, .int .i64 0] ?_; intro b3 hg mh hbox hb; refine k8_ (Kd.R_below (Kd.R_elderB (Z2 bw) b3 (Nat.le_of_eq hg.symm)) hb) (IsS47.below (Z3 HI484) hb) (below_step (Z15) hb) (hbox) ((Z110 : w.heap.size ≤ b3)) ((Z110 : w.heap.size ≤ b3)) ((Z101 : aQ ≠ b3)) ((Z102 : b3 ≠ aQ)) ?_; clear bw HI484 HB; intro bw HI484 HB jT se pt dI dJ; clear hb hbox hg; have sf := dJ.out; have sg := dI.out; obtain ⟨gG, gH, gI, gJ, gK, gL⟩ := bx3_ (w := mh) jT.out))
      repeat (go_quiet (first | (go_at_call 46; (with_reducible refine (spec_l1Cur_pick.calls aQ l0 bf bg (dA.length : Int) d3 oG oH w _ ?_ ?_ sc.out).mono ?_); exact (Z3 HI484); exact Z15; rintro e oD ⟨rfl, hi, hb, hk⟩; refine k3_ (Kd.R_mono (Kd.R_keep (IsS47.apart (show IsS47 w _ aQ l0 bf bg from Z3 HI484) (Z2 bw) (by decide)) hk (fun _ h => h.2)) (fun _ h => h.1)) (hb) (hi) ?_; clear bw HB HI484; intro bw HB HI484; (try clear hb hk hi); have hG : 0 ≤ (d3 : Int) := of_decide_eq_true (Z12); have hH : d3 < (dA.length : Int) := of_decide_eq_true (Z12); obtain ⟨sd, e496, nh, ni, nj⟩ := at_T33 (Kd.R_reads' bw.out).2.2 d3 hG hH; cases e496; replace hG := eq_true hG; replace hH := eq_true hH) | ((with_reducible refine gate_dst (N := 7) rfl ?_); refine bv_ 7 33 #[.int .i64 0, .int .i64 0, .int .i64 0] ?_; intro b3 hg mh hbox hb; refine k8_ (Kd.R_below (Kd.R_elderB (Z2 bw) b3 (Nat.le_of_eq hg.symm)) hb) (IsS47.below (Z3 HI484) hb) (below_step (Z15) hb) (hbox) ((Z110 : w.heap.size ≤ b3)) ((Z110 : w.heap.size ≤ b3)) ((Z101 : aQ ≠ b3)) ((Z102 : b3 ≠ aQ)) ?_; clear bw HI484 HB; intro bw HI484 HB jT se pt dI dJ; clear hb hbox hg; have sf := dJ.out; have sg := dI.out; obtain ⟨gG, gH, gI, gJ, gK, gL⟩ := bx3_ (w := mh) jT.out)); try go_wp2_with (first | (go_at_call 46; (with_reducible refine (spec_l1Cur_pick.calls aQ l0 bf bg (dA.length : Int) d3 oG oH w _ ?_ ?_ sc.out).mono ?_); exact (Z3 HI484); exact Z15; rintro e oD ⟨rfl, hi, hb, hk⟩; refine k3_ (Kd.R_mono (Kd.R_keep (IsS47.apart (show IsS47 w _ aQ l0 bf bg from Z3 HI484) (Z2 bw) (by decide)) hk (fun _ h => h.2)) (fun _ h => h.1)) (hb) (hi) ?_; clear bw HB HI484; intro bw HB HI484; (try clear hb hk hi); have hG : 0 ≤ (d3 : Int) := of_decide_eq_true (Z12); have hH : d3 < (dA.length : Int) := of_decide_eq_true (Z12); obtain ⟨sd, e496, nh, ni, nj⟩ := at_T33 (Kd.R_reads' bw.out).2.2 d3 hG hH; cases e496; replace hG := eq_true hG; replace hH := eq_true hH) | ((with_reducible refine gate_dst (N := 7) rfl ?_); refine bv_ 7 33 #[.int .i64 0, .int .i64 0, .int .i64 0] ?_; intro b3 hg mh hbox hb; refine k8_ (Kd.R_below (Kd.R_elderB (Z2 bw) b3 (Nat.le_of_eq hg.symm)) hb) (IsS47.below (Z3 HI484) hb) (below_step (Z15) hb) (hbox) ((Z110 : w.heap.size ≤ b3)) ((Z110 : w.heap.size ≤ b3)) ((Z101 : aQ ≠ b3)) ((Z102 : b3 ≠ aQ)) ?_; clear bw HI484 HB; intro bw HI484 HB jT se pt dI dJ; clear hb hbox hg; have sf := dJ.out; have sg := dI.out; obtain ⟨gG, gH, gI, gJ, gK, gL⟩ := bx3_ (w := mh) jT.out)))
      go_ret3
      exact ⟨_, Z11, by (with_reducible repeat (first | apply Kd.R_alloc | apply Kd.R_drewN | apply Kd.R_drew)); exact Kd.R_mono (Kd.R_far (p := ⟨b3, 2, none⟩) (Kd.R_far (p := ⟨b3, 1, none⟩) (Kd.R_far (p := ⟨b3, 0, none⟩) (Kd.R_mono bw.out (fun k_ hk => (⟨hk, hk.2⟩ : _ ∧ k_ ≠ b3))) (fun _ hk => hk.2) (.int .i64 ((rd_T33 dA d3).f0))) (fun _ hk => hk.2) (.int .i64 ((rd_T33 dA d3).f1))) (fun _ hk => hk.2) (.int .i64 ((rd_T33 dA d3).f2))) (fun _ hk => trivial), by repeat (first | (with_reducible first | exact HB.out | apply below_alloc | apply pw_below_drewN | apply below_drew1 | refine below_set ?_ (IsS47.ge HI484.out) | refine below_set ?_ pt.out) | exact HB.out)⟩
     rw [if_neg c14] at H
     exact absurd H (by simp)
    rw [if_neg c13] at H
    exact absurd H (by simp)
   replace c11 := Bool.eq_false_iff.mpr c11
   subst c11
   rw [if_neg (show ¬ (false = true) by decide)] at H
   replace H := Option.bind_eq_some_iff.mp H
   obtain ⟨⟨un, jd, je⟩, pu, H⟩ := H
   (try dsimp only at H)
   have cr := Aside0.mk pu
   clear pu
   replace H := Option.bind_eq_some_iff.mp H
   obtain ⟨⟨uo, up, uq⟩, pv, H⟩ := H
   (try dsimp only at H)
   have wy := Aside0.mk pv
   clear pv
   simp only [Option.some.injEq, Prod.mk.injEq] at H
   obtain ⟨rfl, rfl, rfl⟩ := H
   go_wp2_with (first | (go_at_call 29; (with_reducible refine (spec_l1Cur_shiftOf.calls aQ l0 bf bg un jd je w _ ?_ ?_ cr.out).mono ?_); exact (Z3 HI484); exact Z15; rintro e r9 ⟨rfl, hi, hb, hk⟩; refine k3_ (Kd.R_mono (Kd.R_keep (IsS47.apart (show IsS47 w _ aQ l0 bf bg from Z3 HI484) (Z2 bw) (by decide)) hk (fun _ h => h.2)) (fun _ h => h.1)) (hb) (hi) ?_; clear bw HB HI484; intro bw HB HI484; (try clear hb hk hi)) | (go_at_call 30; (with_reducible refine (spec_l1Cur_angleOf.calls aQ l0 jd je uo up uq w _ ?_ ?_ wy.out).mono ?_); exact (Z3 HI484); exact Z15; rintro e oB ⟨rfl, hi, hb, hk⟩; refine k3_ (Kd.R_mono (Kd.R_keep (IsS47.apart (show IsS47 w _ aQ l0 jd je from Z3 HI484) (Z2 bw) (by decide)) hk (fun _ h => h.2)) (fun _ h => h.1)) (hb) (hi) ?_; clear bw HB HI484; intro bw HB HI484; (try clear hb hk hi)))
   repeat (go_quiet (first | (go_at_call 29; (with_reducible refine (spec_l1Cur_shiftOf.calls aQ l0 bf bg un jd je w _ ?_ ?_ cr.out).mono ?_); exact (Z3 HI484); exact Z15; rintro e r9 ⟨rfl, hi, hb, hk⟩; refine k3_ (Kd.R_mono (Kd.R_keep (IsS47.apart (show IsS47 w _ aQ l0 bf bg from Z3 HI484) (Z2 bw) (by decide)) hk (fun _ h => h.2)) (fun _ h => h.1)) (hb) (hi) ?_; clear bw HB HI484; intro bw HB HI484; (try clear hb hk hi)) | (go_at_call 30; (with_reducible refine (spec_l1Cur_angleOf.calls aQ l0 jd je uo up uq w _ ?_ ?_ wy.out).mono ?_); exact (Z3 HI484); exact Z15; rintro e oB ⟨rfl, hi, hb, hk⟩; refine k3_ (Kd.R_mono (Kd.R_keep (IsS47.apart (show IsS47 w _ aQ l0 jd je from Z3 HI484) (Z2 bw) (by decide)) hk (fun _ h => h.2)) (fun _ h => h.1)) (hb) (hi) ?_; clear bw HB HI484; intro bw HB HI484; (try clear hb hk hi))); try go_wp2_with (first | (go_at_call 29; (with_reducible refine (spec_l1Cur_shiftOf.calls aQ l0 bf bg un jd je w _ ?_ ?_ cr.out).mono ?_); exact (Z3 HI484); exact Z15; rintro e r9 ⟨rfl, hi, hb, hk⟩; refine k3_ (Kd.R_mono (Kd.R_keep (IsS47.apart (show IsS47 w _ aQ l0 bf bg from Z3 HI484) (Z2 bw) (by decide)) hk (fun _ h => h.2)) (fun _ h => h.1)) (hb) (hi) ?_; clear bw HB HI484; intro bw HB HI484; (try clear hb hk hi)) | (go_at_call 30; (with_reducible refine (spec_l1Cur_angleOf.calls aQ l0 jd je uo up uq w _ ?_ ?_ wy.out).mono ?_); exact (Z3 HI484); exact Z15; rintro e oB ⟨rfl, hi, hb, hk⟩; refine k3_ (Kd.R_mono (Kd.R_keep (IsS47.apart (show IsS47 w _ aQ l0 jd je from Z3 HI484) (Z2 bw) (by decide)) hk (fun _ h => h.2)) (fun _ h => h.1)) (hb) (hi) ?_; clear bw HB HI484; intro bw HB HI484; (try clear hb hk hi))))
   go_ret3
   exact ⟨_, Z11, Z2 bw, Z15⟩

/-! ### spec_PlayedAt: function 23 -/
mutual
def spec_PlayedAt.j0 : Nat → List (S33) → Int → Int → Bool → Option (List Int × Bool)
 | 0, _, _, _, _ => none
 | k + 1, x0, x1, x2, x23 => if x23 = true then (some (([] : List Int), false)) else (spec_PlayedAt.l0 k x1 x2 ([] : List Int) x0 (x0.length : Int) 0)
def spec_PlayedAt.l0 : Nat → Int → Int → List Int → List (S33) → Int → Int → Option (List Int × Bool)
 | 0, _, _, _, _, _, _ => none
 | k + 1, x1, x2, x8, x24, x25, x26 => if x26 < x25 then (if 0 ≤ x26 then (if x26 < (x24.length : Int) then (if ((rd_T33 x24 x26).f2) = x1 then (if ((rd_T33 x24 x26).f1) = x2 then (if x8.length < 17592186044416 then (spec_PlayedAt.l0 k x1 x2 (x8 ++ [(rd_T33 x24 x26).f0]) x24 x25 (wrap64 (x26 + 1))) else (none)) else (spec_PlayedAt.l0 k x1 x2 x8 x24 x25 (wrap64 (x26 + 1)))) else (spec_PlayedAt.l0 k x1 x2 x8 x24 x25 (wrap64 (x26 + 1)))) else (none)) else (none)) else (some (x8, true))
end
def spec_PlayedAt.f (k : Nat) (l0 : List (S33)) (a1 : Int) (a2 : Int) : Option (List Int × Bool) := (spec_cyGood.f k l0).bind fun pw => (if pw = true then ((spec_cyShift.f a1).bind fun px => (if px = true then ((spec_cyAngle.f a2).bind fun n4 => (spec_PlayedAt.j0 k l0 a1 a2 (!n4))) else (spec_PlayedAt.j0 k l0 a1 a2 true))) else (spec_PlayedAt.j0 k l0 a1 a2 true))
theorem spec_PlayedAt.mono_l : ∀ k, (∀ y0 y1 y2 y3, LeO (spec_PlayedAt.j0 k y0 y1 y2 y3) (spec_PlayedAt.j0 (k + 1) y0 y1 y2 y3)) ∧ (∀ y0 y1 y2 y3 y4 y5, LeO (spec_PlayedAt.l0 k y0 y1 y2 y3 y4 y5) (spec_PlayedAt.l0 (k + 1) y0 y1 y2 y3 y4 y5))
 | 0 => ⟨fun _ _ _ _ r h => by simp [spec_PlayedAt.j0] at h, fun _ _ _ _ _ _ r h => by simp [spec_PlayedAt.l0] at h⟩
 | k + 1 => by
  obtain ⟨ih0, ih1⟩ := spec_PlayedAt.mono_l k
  refine ⟨?_, ?_⟩
  ·intro y0 y1 y2 y3
   unfold spec_PlayedAt.j0
   exact mo13_
  intro y0 y1 y2 y3 y4 y5
  unfold spec_PlayedAt.l0
  exact mo13_
theorem spec_PlayedAt.mono : ∀ a0 a1 a2 k, LeO (spec_PlayedAt.f k a0 a1 a2) (spec_PlayedAt.f (k + 1) a0 a1 a2) := by
 intro a0 a1 a2 k
 obtain ⟨ih0, ih1⟩ := spec_PlayedAt.mono_l k
 unfold spec_PlayedAt.f
 exact mo13_
set_option maxHeartbeats 8000000 in
set_option maxRecDepth 100000 in
theorem spec_PlayedAt.calls (k : Nat) (A0 : Option Addr) (c0 : Nat) (l0 : List (S33)) (a1 : Int) (a2 : Int) (r1 : List Int) (r2 : Bool) (w : World) (hr0 : Kd.C k33 w A0 l0.length l0) (hc0 : l0.length ≤ c0) (h : spec_PlayedAt.f k l0 a1 a2 = some (r1, r2)) :
  Calls Tryd.prog 23 #[.slice A0 l0.length c0, .int .i64 a1, .int .i64 a2] w fun e w' => ∃ v0_ : Value, e = .returned (.tuple #[v0_, .bool r2]) ∧ Kd.R (Kd.int .i64) 3 w' w.heap.size (fun _ => True) v0_ r1 ∧ Below w.heap.size w w' := by
 have hu33 := Tryd.underlying33
 have HR0 := Aside0.mk hr0
 have HC0 := Aside0.mk hc0
 clear hr0 hc0
 have HB := Aside0.mk (Below.refl w.heap.size w)
 have H : ((spec_cyGood.f k l0).bind fun pw => (if pw = true then ((spec_cyShift.f a1).bind fun px => (if px = true then ((spec_cyAngle.f a2).bind fun n4 => (spec_PlayedAt.j0 k l0 a1 a2 (!n4))) else (spec_PlayedAt.j0 k l0 a1 a2 true))) else (spec_PlayedAt.j0 k l0 a1 a2 true))) = some (r1, r2) := h
 clear h
 have HC4 := Aside0.mk H
 clear H
 go_enter Tryd.func23, Tryd.ntmps23
 go_upto_region 1 with (fail)
 go_cut [23] (fun t9 wc => ∃ (kq : Nat) (b8 : Bool), t9 = .bool b8 ∧ Aside0 (spec_PlayedAt.j0 kq l0 a1 a2 b8 = some (r1, r2)) ∧ Aside0 (kq ≤ k) ∧ Aside0 (Below w.heap.size w wc))
 case first =>
  have H := HC4.out
  clear HC4
  replace H := Option.bind_eq_some_iff.mp H
  obtain ⟨pw, dG, H⟩ := H
  (try dsimp only at H)
  have A5 := Aside0.mk dG
  clear dG
  by_cases c6 : pw = true
  ·subst c6
   rw [if_pos rfl] at H
   replace H := Option.bind_eq_some_iff.mp H
   obtain ⟨px, ed, H⟩ := H
   (try dsimp only at H)
   have A7 := Aside0.mk ed
   clear ed
   by_cases c8 : px = true
   ·subst c8
    rw [if_pos rfl] at H
    replace H := Option.bind_eq_some_iff.mp H
    obtain ⟨n4, jG, H⟩ := H
    (try dsimp only at H)
    have A9 := Aside0.mk jG
    clear jG
    have H' := Aside0.mk H
    clear H
    go_wp2_with (first | ((with_reducible refine gate_callee (f := 33) rfl ?_); refine gl_ 12 Tryd.func33 #[.slice A0 l0.length c0] ?_; (with_reducible refine (spec_cyGood.calls k _ _ l0 true _ ?_ ?_ A5.out).mono ?_); exact (Z16 HR0); exact HC0.out; rintro e jE ⟨rfl, hb⟩; refine ⟨_, rfl, ?_⟩; refine k1_ (below_step (Z1) hb) ?_; clear HB; intro HB; (try clear hb)) | (go_at_call 34; (with_reducible refine (spec_cyShift.calls a1 true _ A7.out).mono ?_); rintro e w' ⟨rfl, ⟨nd, rfl⟩⟩) | (go_at_call 35; (with_reducible refine (spec_cyAngle.calls a2 n4 _ A9.out).mono ?_); rintro e w' ⟨rfl, ⟨nd, rfl⟩⟩))
    go_meet
    case rel => exact ⟨_, (!n4), (Z14), H', ⟨Z56⟩, ⟨Z1⟩⟩
   replace c8 := Bool.eq_false_iff.mpr c8
   subst c8
   rw [if_neg (show ¬ (false = true) by decide)] at H
   have H' := Aside0.mk H
   clear H
   go_wp2_with (first | ((with_reducible refine gate_callee (f := 33) rfl ?_); refine gl_ 12 Tryd.func33 #[.slice A0 l0.length c0] ?_; (with_reducible refine (spec_cyGood.calls k _ _ l0 true _ ?_ ?_ A5.out).mono ?_); exact (Z16 HR0); exact HC0.out; rintro e eV ⟨rfl, hb⟩; refine ⟨_, rfl, ?_⟩; refine k1_ (below_step (Z1) hb) ?_; clear HB; intro HB; (try clear hb)) | (go_at_call 34; (with_reducible refine (spec_cyShift.calls a1 false _ A7.out).mono ?_); rintro e w' ⟨rfl, ⟨nd, rfl⟩⟩))
   go_meet
   case rel => exact ⟨_, (true), (Z14), H', ⟨Z56⟩, ⟨Z1⟩⟩
  replace c6 := Bool.eq_false_iff.mpr c6
  subst c6
  rw [if_neg (show ¬ (false = true) by decide)] at H
  have H' := Aside0.mk H
  clear H
  go_wp2_with (first | ((with_reducible refine gate_callee (f := 33) rfl ?_); refine gl_ 12 Tryd.func33 #[.slice A0 l0.length c0] ?_; (with_reducible refine (spec_cyGood.calls k _ _ l0 false _ ?_ ?_ A5.out).mono ?_); exact (Z16 HR0); exact HC0.out; rintro e oU ⟨rfl, hb⟩; refine ⟨_, rfl, ?_⟩; refine k1_ (below_step (Z1) hb) ?_; clear HB; intro HB; (try clear hb)))
  go_meet
  case rel => exact ⟨_, (true), (Z14), H', ⟨Z56⟩, ⟨Z1⟩⟩
 case rest =>
  clear HC4
  (try clear c2); (try clear p2); (try clear c3); (try clear c6); (try clear c8)
  obtain ⟨kq, b8, rfl, HA, eS, HB⟩ := hcut
  cases kq with
  | zero => exact absurd HA.out (by simp [spec_PlayedAt.j0])
  | succ gw =>
   have H := HA.out
   clear HA
   simp only [spec_PlayedAt.j0] at H
   by_cases c13 : b8 = true
   ·subst c13
    rw [if_pos rfl] at H
    simp only [Option.some.injEq, Prod.mk.injEq] at H
    obtain ⟨rfl, rfl⟩ := H
    go_wp2
    go_ret2
    exact ⟨_, Z11, Z21, Z1⟩
   replace c13 := Bool.eq_false_iff.mpr c13
   subst c13
   rw [if_neg (show ¬ (false = true) by decide)] at H
   have H' := Aside0.mk H
   clear H
   go_wp2
   go_loopg [8, 26] gw (fun kq v8 yu w' => ∃ (ay : List Int) (ah : Int), yu = .int .i64 ah ∧ Aside0 (spec_PlayedAt.l0 kq a1 a2 ay l0 (l0.length : Int) ah = some (r1, r2)) ∧ Aside0 (kq ≤ gw) ∧ Aside0 (Kd.R (Kd.int .i64) 3 w' w.heap.size (fun _ => True) v8 ay) ∧ Aside0 (Below w.heap.size w w'))
   case atStart => exact ⟨(([] : List Int)), (0), (Z14), H', ⟨Nat.le_refl _⟩, ⟨Z21⟩, ⟨Z1⟩⟩
   case round =>
    clear H'
    (try clear c1); (try clear c13)
    obtain ⟨ay, ah, rfl, HA, HK2, ar, HB⟩ := hrel
    cases gk with
    | zero => exact absurd HA.out (by simp [spec_PlayedAt.l0])
    | succ k2 =>
     have H := HA.out
     clear HA
     simp only [spec_PlayedAt.l0] at H
     by_cases c14 : ah < (l0.length : Int)
     ·rw [if_pos c14] at H
      have fh : decide (ah < (l0.length : Int)) = true := decide_eq_true c14
      clear c14
      by_cases c15 : 0 ≤ ah
      ·rw [if_pos c15] at H
       have pj : decide (0 ≤ ah) = true := decide_eq_true c15
       clear c15
       by_cases c16 : ah < (l0.length : Int)
       ·rw [if_pos c16] at H
        have na : decide (ah < (l0.length : Int)) = true := decide_eq_true c16
        clear c16
        by_cases c17 : ((rd_T33 l0 ah).f2) = a1
        ·rw [if_pos c17] at H
         have ee : (((rd_T33 l0 ah).f2) == a1) = true := beq_iff_eq.mpr c17
         have iL : (((rd_T33 l0 ah).f2) != a1) = false := bne_eq_false_iff_eq.mpr c17
         clear c17
         by_cases c18 : ((rd_T33 l0 ah).f1) = a2
         ·rw [if_pos c18] at H
          have jJ : (((rd_T33 l0 ah).f1) == a2) = true := beq_iff_eq.mpr c18
          have c18b1 : (((rd_T33 l0 ah).f1) != a2) = false := bne_eq_false_iff_eq.mpr c18
          clear c18
          by_cases c19 : ay.length < 17592186044416
          ·rw [if_pos c19] at H
           have pz := Aside0.mk c19
           clear c19
           obtain ⟨wz, jU⟩ : ∃ y_ : List Int, y_ = (ay ++ [(rd_T33 l0 ah).f0]) := ⟨_, rfl⟩
           replace H : (spec_PlayedAt.l0 k2 a1 a2 wz l0 (l0.length : Int) (wrap64 (ah + 1))) = some (r1, r2) := by first | (rw [jU]; with_reducible exact H) | (have H2_ := (Option.bind_some _ _).symm.trans H; rw [jU]; with_reducible exact H2_) | (have H2_ := (Option.bind_some _ _).symm.trans H; with_reducible exact H2_) | with_reducible exact H | (rw [jU]; exact H) | exact H
           have Ny509 := Aside0.mk jU
           clear jU
           have H' := Aside0.mk H
           clear H
           have hJ : 0 ≤ (ah : Int) := of_decide_eq_true (Z12)
           have hL : ah < (l0.length : Int) := of_decide_eq_true (Z12)
           obtain ⟨sh, e507, cd, ce, cf⟩ := at_T33 HR0.out ah hJ hL
           cases e507
           replace cd := (HB.out.cell (World.block_lt_of_cell? w _ cd)).trans cd
           replace ce := (HB.out.cell (World.block_lt_of_cell? w _ ce)).trans ce
           replace cf := (HB.out.cell (World.block_lt_of_cell? w _ cf)).trans cf
           replace hJ := eq_true hJ
           replace hL := eq_true hL
           go_wp2_with (first | ((with_reducible refine gate_dst (N := 10) rfl ?_); refine bv_ 10 33 #[.int .i64 0, .int .i64 0, .int .i64 0] ?_; intro ec hg qS hbox hb; refine k5_ (Ya_ ar) (below_step (Z1) hb) (hbox) ((Z23 : w.heap.size ≤ ec)) ((Z23 : w.heap.size ≤ ec)) ?_; clear ar HB; intro ar HB eU si oM; clear hb hbox hg; obtain ⟨hcz21_0, hcz21_1, hcz21_2, hfz21_0, hfz21_1, hfz21_2⟩ := bx3_ (w := qS) eU.out) | ((with_reducible refine gate_builtin (b := .append) (xs := #[.tmp 40, .tmp 43]) rfl ?_); at_builtin; refine Kd.R_append (Kd.int .i64) (w0 := w) w.heap.size rfl (.tmp 40) (.tmp 43) 34 3 (.int .i64 0) 8 rfl Tryd.underlying34 info3 rfl (by decide) (by omega) u8 ay ((rd_T33 l0 ah).f0) [.int .i64 ((rd_T33 l0 ah).f0)] (fun _ => True) (fun _ => False) rfl (Z34) ?aP (fun _ hk => hk.elim) ?aF ?aO ?aB ?aS ?aL ?_; (case aP => exact rfl); (case aB => exact Z68); (case aF => exact (fun _ _ => trivial)); (case aO => exact Z50); (case aS => exact (below_size (Z68))); (case aL => exact Z82 pz); intro v510 r9 ho hb hg hat; rw [← Ny509.out] at ho; refine k3_ (blk_grown (g := ec) (o := .cells #[.int .i64 ((rd_T33 l0 ah).f0), .int .i64 ((rd_T33 l0 ah).f1), .int .i64 ((rd_T33 l0 ah).f2)] 33 (0, 0)) (Z42 eU) hg (Kd.R_ne ar.out eU.out (by decide))) (hb) (ho) ?_; clear eU HB ar; intro eU HB HO511; clear ho hb hg hat))
           go_roundg k2
           case measure => have := eS.out; have := HK2.out; omega
           case rel => exact ⟨(wz), (wrap64 (ah + 1)), (Z14), H', ⟨Z74⟩, ⟨Z2 HO511⟩, ⟨Z68⟩⟩
          rw [if_neg c19] at H
          exact absurd H (by simp)
         rw [if_neg c18] at H
         have jJ : (((rd_T33 l0 ah).f1) == a2) = false := beq_eq_false_iff_ne.mpr c18
         have c18b1 : (((rd_T33 l0 ah).f1) != a2) = true := bne_iff_ne.mpr c18
         have H' := Aside0.mk H
         clear H
         have hJ : 0 ≤ (ah : Int) := of_decide_eq_true (Z12)
         have hL : ah < (l0.length : Int) := of_decide_eq_true (Z12)
         obtain ⟨sh, e507, cd, ce, cf⟩ := at_T33 HR0.out ah hJ hL
         cases e507
         replace cd := (HB.out.cell (World.block_lt_of_cell? w _ cd)).trans cd
         replace ce := (HB.out.cell (World.block_lt_of_cell? w _ ce)).trans ce
         replace cf := (HB.out.cell (World.block_lt_of_cell? w _ cf)).trans cf
         replace hJ := eq_true hJ
         replace hL := eq_true hL
         go_wp2_with (first | ((with_reducible refine gate_dst (N := 10) rfl ?_); refine bv_ 10 33 #[.int .i64 0, .int .i64 0, .int .i64 0] ?_; intro ec hg oB hbox hb; refine k5_ (Ya_ ar) (below_step (Z1) hb) (hbox) ((Z23 : w.heap.size ≤ ec)) ((Z23 : w.heap.size ≤ ec)) ?_; clear ar HB; intro ar HB eU si oM; clear hb hbox hg; obtain ⟨hcz24_0, hcz24_1, hcz24_2, hfz24_0, hfz24_1, hfz24_2⟩ := bx3_ (w := oB) eU.out))
         go_roundg k2
         case measure => have := eS.out; have := HK2.out; omega
         case rel => exact ⟨(ay), (wrap64 (ah + 1)), (Z14), H', ⟨Z74⟩, ⟨Z50⟩, ⟨Z68⟩⟩
        rw [if_neg c17] at H
        have ee : (((rd_T33 l0 ah).f2) == a1) = false := beq_eq_false_iff_ne.mpr c17
        have iL : (((rd_T33 l0 ah).f2) != a1) = true := bne_iff_ne.mpr c17
        have H' := Aside0.mk H
        clear H
        have hJ : 0 ≤ (ah : Int) := of_decide_eq_true (Z12)
        have hL : ah < (l0.length : Int) := of_decide_eq_true (Z12)
        obtain ⟨sh, e507, cd, ce, cf⟩ := at_T33 HR0.out ah hJ hL
        cases e507
        replace cd := (HB.out.cell (World.block_lt_of_cell? w _ cd)).trans cd
        replace ce := (HB.out.cell (World.block_lt_of_cell? w _ ce)).trans ce
        replace cf := (HB.out.cell (World.block_lt_of_cell? w _ cf)).trans cf
        replace hJ := eq_true hJ
        replace hL := eq_true hL
        go_wp2_with (first | ((with_reducible refine gate_dst (N := 10) rfl ?_); refine bv_ 10 33 #[.int .i64 0, .int .i64 0, .int .i64 0] ?_; intro ec hg n5 hbox hb; refine k5_ (Ya_ ar) (below_step (Z1) hb) (hbox) ((Z23 : w.heap.size ≤ ec)) ((Z23 : w.heap.size ≤ ec)) ?_; clear ar HB; intro ar HB eU si oM; clear hb hbox hg; obtain ⟨nk, nl, nn, no, np, nq⟩ := bx3_ (w := n5) eU.out))
        go_roundg k2
        case measure => have := eS.out; have := HK2.out; omega
        case rel => exact ⟨(ay), (wrap64 (ah + 1)), (Z14), H', ⟨Z74⟩, ⟨Z50⟩, ⟨Z68⟩⟩
       rw [if_neg c16] at H
       exact absurd H (by simp)
      rw [if_neg c15] at H
      exact absurd H (by simp)
     rw [if_neg c14] at H
     have fh : decide (ah < (l0.length : Int)) = false := decide_eq_false c14
     clear c14
     simp only [Option.some.injEq, Prod.mk.injEq] at H
     obtain ⟨rfl, rfl⟩ := H
     go_wp2
     go_ret2
     exact ⟨_, Z11, Z2 ar, Z1⟩

/-! ### spec_DrawArePins: function 47 -/
def spec_DrawArePins.f (k : Nat) (l0 : List Int) : Option ((List (S33))) := (spec_l1Cur_pins.f k l0 0 0).bind fun pA => (some pA.1)
theorem spec_DrawArePins.mono : ∀ a0 k, LeO (spec_DrawArePins.f k a0) (spec_DrawArePins.f (k + 1) a0) := by
 intro a0 k
 unfold spec_DrawArePins.f
 exact mo13_
set_option maxHeartbeats 8000000 in
set_option maxRecDepth 100000 in
theorem spec_DrawArePins.calls (k : Nat) (A0 : Option Addr) (c0 : Nat) (l0 : List Int) (r : List (S33)) (w : World) (hr0 : Kd.C (Kd.int .u8) w A0 l0.length l0) (hc0 : l0.length ≤ c0) (h : spec_DrawArePins.f k l0 = some r) :
  Calls Tryd.prog 47 #[.slice A0 l0.length c0] w fun e w' => ∃ v0_ : Value, e = .returned (v0_) ∧ Kd.R k33 33 w' w.heap.size (fun _ => True) v0_ r ∧ Below w.heap.size w w' := by
 have hu47 := Tryd.underlying47
 have HR0 := Aside0.mk hr0
 have HC0 := Aside0.mk hc0
 clear hr0 hc0
 have HB := Aside0.mk (Below.refl w.heap.size w)
 have H : ((spec_l1Cur_pins.f k l0 0 0).bind fun pA => (some pA.1)) = some r := h
 clear h
 replace H := Option.bind_eq_some_iff.mp H
 obtain ⟨⟨wA, t516, t517⟩, cr, H⟩ := H
 replace H : (some wA) = some r := H
 have A2 := Aside0.mk cr
 clear cr
 obtain rfl := Option.some.inj H
 go_enter Tryd.func47, Tryd.ntmps47
 go_wp2_with (first | ((with_reducible refine gate_dst (N := 6) rfl ?_); refine bv_ 6 47 #[.slice A0 l0.length c0, .int .i64 0, .int .u64 0] ?_; intro jV hg w3 hbox hb; refine k4_ (below_step (Z1) hb) ((show IsS47 w w3 jV l0 0 0 from ⟨_, _, hbox, (Z23), HR0.out⟩)) ((Z23 : w.heap.size ≤ jV)) ((Z23 : w.heap.size ≤ jV)) ?_; clear HB; intro HB HI512 GW512 GE512; clear hb hbox hg) | ((with_reducible refine gate_callee (f := 28) rfl ?_); refine gl_ 8 Tryd.func28 #[.pointer (some ⟨jV, 0, none⟩)] ?_; (with_reducible refine (spec_l1Cur_pins.calls k jV l0 0 0 wA t516 t517 w _ ?_ ?_ A2.out).mono ?_); exact (Z3 HI512); exact Z88; rintro e w4 ⟨v514, rfl, ho0, hi, hb, hk⟩; refine ⟨_, rfl, ?_⟩; refine k3_ (Kd.R_lower ho0 (below_size (Z88))) (hb) (hi) ?_; clear HB HI512; intro HO515 HB HI512; (try clear hb hk hi ho0)))
 go_ret
 exact ⟨_, Z11, Z2 HO515, Z88⟩

/-! ### spec_DrawPinsText: function 24 -/
def spec_DrawPinsText.f (k : Nat) (l0 : List Int) : Option ((List (S33))) := (spec_DrawArePins.f k l0).bind fun n6 => (some n6)
theorem spec_DrawPinsText.mono : ∀ a0 k, LeO (spec_DrawPinsText.f k a0) (spec_DrawPinsText.f (k + 1) a0) := by
 intro a0 k
 unfold spec_DrawPinsText.f
 exact mo13_
set_option maxHeartbeats 8000000 in
set_option maxRecDepth 100000 in
theorem spec_DrawPinsText.calls (k : Nat) (A0 : Option Addr) (c0 : Nat) (l0 : List Int) (r : List (S33)) (w : World) (hr0 : Kd.C (Kd.int .u8) w A0 l0.length l0) (hc0 : l0.length ≤ c0) (h : spec_DrawPinsText.f k l0 = some r) :
  Calls Tryd.prog 24 #[.slice A0 l0.length c0] w fun e w' => ∃ v0_ : Value, e = .returned (v0_) ∧ Kd.R k33 33 w' w.heap.size (fun _ => True) v0_ r ∧ Below w.heap.size w w' := by
 have HR0 := Aside0.mk hr0
 have HC0 := Aside0.mk hc0
 clear hr0 hc0
 have HB := Aside0.mk (Below.refl w.heap.size w)
 have H : ((spec_DrawArePins.f k l0).bind fun n6 => (some n6)) = some r := h
 clear h
 replace H := Option.bind_eq_some_iff.mp H
 obtain ⟨n6, cr, H⟩ := H
 replace H : (some n6) = some r := H
 have A2 := Aside0.mk cr
 clear cr
 obtain rfl := Option.some.inj H
 go_enter Tryd.func24, Tryd.ntmps24
 go_wp2_with (first | ((with_reducible refine gate_callee (f := 47) rfl ?_); refine gl_ 4 Tryd.func47 #[.slice A0 l0.length c0] ?_; (with_reducible refine (spec_DrawArePins.calls k _ _ l0 n6 _ ?_ ?_ A2.out).mono ?_); exact (Z17 HR0); exact HC0.out; rintro e w3 ⟨v519, rfl, ho0, hb⟩; refine ⟨_, rfl, ?_⟩; refine k2_ (Kd.R_lower ho0 (below_size (Z1))) (below_step (Z1) hb) ?_; clear HB; intro HO520 HB; (try clear hb ho0)))
 go_ret
 exact ⟨_, Z11, Z2 HO520, Z1⟩

/-! ### strconv_Itoa: function 62: by this session -/
/-- A table of the library's behind what keeps the blocks that were. -/
theorem tb_ {P : Program} {w w' : World} {nm : String} {k : IntKind} {zs : List Int} (h : Go.Lib.TabIs P w nm k zs) (hb : Below w.heap.size w w') : Go.Lib.TabIs P w' nm k zs := by
 unfold Go.Lib.TabIs World.var? at h ⊢
 cases hg : P.globalNamed nm with
 | none => rw [hg] at h; cases h
 | some g =>
  rw [hg] at h
  simp only [Option.bind_some] at h ⊢
  have hlt : g < w.heap.size := by
   rcases Nat.lt_or_ge g w.heap.size with h' | h'
   ·exact h'
   rw [Array.getElem?_eq_none h'] at h; cases h
  rw [hb.block g hlt]
  exact h
def strconv_Itoa.f (a0 : Int) : Option (ByteArray) := if 0 ≤ a0 ∧ a0 ≤ 9223372036854775807 then some ⟨(Go.Lib.itoa a0).toArray⟩ else none
theorem strconv_Itoa.calls (a0 : Int) (r : ByteArray) (w : World) (h : strconv_Itoa.f a0 = some r) (hT : Go.Lib.TabIs Tryd.prog w "internal/strconv.uint64pow10" .u64 Go.Lib.pow10Tab) :
  Calls Tryd.prog 62 #[.int .i64 a0] w fun e w' => e = .returned (.string r) ∧ Below w.heap.size w w' := by
 unfold strconv_Itoa.f at h
 split at h
 ·rename_i hc
  obtain rfl := Option.some.inj h
  refine (Any.strconv_Itoa Tryd.laysM171 a0 (by omega) hc.2 w hT).mono ?_
  rintro e w' ⟨rfl, k, os, rfl⟩
  exact ⟨rfl, Go.Lib.below_grow _ w (Nat.le_refl _) k os⟩
 cases h

end Go.Proofs.YtdipcpcbclobpaaDoor.PFnPins
