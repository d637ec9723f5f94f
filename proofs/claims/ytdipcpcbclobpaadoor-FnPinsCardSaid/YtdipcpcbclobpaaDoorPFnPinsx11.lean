-- written by a program of this session: the kit's print, with outer functions of the session's own (wip/ext)
import Derived.Test.YtdipcpcbclobpaaDoorPFnPinsx0
import Derived.Test.YtdipcpcbclobpaaDoorPFnPinsx5
import Derived.Test.YtdipcpcbclobpaaDoorPFnPinsx6
import Derived.Test.YtdipcpcbclobpaaDoorPFnPinsx7
import Derived.Test.YtdipcpcbclobpaaDoorPFnPinsx8
import Derived.Test.YtdipcpcbclobpaaDoorPFnPinsx9
import Derived.Test.YtdipcpcbclobpaaDoorPFnPinsx10
namespace Go.Proofs.YtdipcpcbclobpaaDoor.PFnPins
open Go.RowKit Go.Proofs.YtdipcpcbclobpaaDoorW.PrintWords Go.Proofs.YtdipcpcbclobpaaDoorW.PrintLast Go.Proofs.YtdipcpcbclobpaaDoorW.PrintMore
attribute [local go_sem] max2_int min2_int max_two min_two max_three min_three max_four min_four   -- for this text's walks alone
set_option linter.unusedVariables false
set_option linter.unusedSimpArgs false
theorem mo11_ {p : Prop} (h : p := by repeat' first | (with_reducible first | apply ih0 | apply ih0 | apply ih1 | apply ih1 | apply impl_ArePins.mono | apply impl_ArePins.mono | apply impl_pinsOf.mono | apply impl_pinsOf.mono | apply impl_tunePins.mono | apply impl_tunePins.mono | apply spec_l1Cur_pins.mono | apply spec_l1Cur_pins.mono | exact LeO.refl _ | exact LeO.none _ | refine LeO.ite ?_ ?_ | refine LeO.bind ?_ (fun _ => ?_)) | exact LeO.none _ | refine LeO.ite ?_ ?_ | refine LeO.bind ?_ (fun _ => ?_)) : p := h

/-! ### impl_isAngle: function 41 -/
def impl_isAngle.f (a0 : Int) : Option (Bool) := if a0 ≥ 0 then (some (decide (a0 < 360))) else (some false)
set_option maxHeartbeats 8000000 in
set_option maxRecDepth 100000 in
theorem impl_isAngle.calls (a0 : Int) (r : Bool) (w : World) (h : impl_isAngle.f a0 = some r) :
  Calls Tryd.prog 41 #[.int .i64 a0] w fun e w' => e = .returned (.bool r) ∧ Drawn0 w w' := by
 have H : (if a0 ≥ 0 then (some (decide (a0 < 360))) else (some false)) = some r := h
 clear h
 by_cases c2 : a0 ≥ 0
 ·rw [if_pos c2] at H
  have eN : decide (0 ≤ a0) = true := decide_eq_true c2
  clear c2
  obtain rfl := Option.some.inj H
  go_enter Tryd.func41, Tryd.ntmps41
  go_wp2
  go_ret
  exact ⟨Z14, Z43⟩
 rw [if_neg c2] at H
 have eN : decide (0 ≤ a0) = false := decide_eq_false c2
 clear c2
 obtain rfl := Option.some.inj H
 go_enter Tryd.func41, Tryd.ntmps41
 go_wp2
 go_ret
 exact ⟨Z14, Z43⟩

/-! ### impl_PlayedAt: function 14 -/
mutual
def impl_PlayedAt.j0 : Nat → List (S33) → Int → Int → Bool → Option (List Int × Bool)
 | 0, _, _, _, _ => none
 | k + 1, x0, x1, x2, x23 => if x23 = true then (some (([] : List Int), false)) else ((impl_tunePins.f k x0 x1 true).bind fun bl => (impl_PlayedAt.l0 k x2 (([] : List Int)) bl (bl.length : Int) 0))
def impl_PlayedAt.l0 : Nat → Int → List Int → List (S33) → Int → Int → Option (List Int × Bool)
 | 0, _, _, _, _, _ => none
 | k + 1, x2, x8, x27, x28, x29 => if x29 < x28 then (if 0 ≤ x29 then (if x29 < (x27.length : Int) then (if ((rd_T33 x27 x29).f1) = x2 then (if x8.length < 17592186044416 then (impl_PlayedAt.l0 k x2 (x8 ++ [(rd_T33 x27 x29).f0]) x27 x28 (wrap64 (x29 + 1))) else (none)) else (impl_PlayedAt.l0 k x2 x8 x27 x28 (wrap64 (x29 + 1)))) else (none)) else (none)) else (some (x8, true))
end
def impl_PlayedAt.f (k : Nat) (l0 : List (S33)) (a1 : Int) (a2 : Int) : Option (List Int × Bool) := (impl_ArePins.f k l0).bind fun o6 => (if o6 = true then ((impl_isShift.f a1).bind fun o7 => (if o7 = true then ((impl_isAngle.f a2).bind fun nY => (impl_PlayedAt.j0 k l0 a1 a2 (!nY))) else (impl_PlayedAt.j0 k l0 a1 a2 true))) else (impl_PlayedAt.j0 k l0 a1 a2 true))
theorem impl_PlayedAt.mono_l : ∀ k, (∀ y0 y1 y2 y3, LeO (impl_PlayedAt.j0 k y0 y1 y2 y3) (impl_PlayedAt.j0 (k + 1) y0 y1 y2 y3)) ∧ (∀ y0 y1 y2 y3 y4, LeO (impl_PlayedAt.l0 k y0 y1 y2 y3 y4) (impl_PlayedAt.l0 (k + 1) y0 y1 y2 y3 y4))
 | 0 => ⟨fun _ _ _ _ r h => by simp [impl_PlayedAt.j0] at h, fun _ _ _ _ _ r h => by simp [impl_PlayedAt.l0] at h⟩
 | k + 1 => by
  obtain ⟨ih0, ih1⟩ := impl_PlayedAt.mono_l k
  refine ⟨?_, ?_⟩
  ·intro y0 y1 y2 y3
   unfold impl_PlayedAt.j0
   exact mo11_
  intro y0 y1 y2 y3 y4
  unfold impl_PlayedAt.l0
  exact mo11_
theorem impl_PlayedAt.mono : ∀ a0 a1 a2 k, LeO (impl_PlayedAt.f k a0 a1 a2) (impl_PlayedAt.f (k + 1) a0 a1 a2) := by
 intro a0 a1 a2 k
 obtain ⟨ih0, ih1⟩ := impl_PlayedAt.mono_l k
 unfold impl_PlayedAt.f
 exact mo11_
set_option maxHeartbeats 8000000 in
set_option maxRecDepth 100000 in
theorem impl_PlayedAt.calls (k : Nat) (A0 : Option Addr) (c0 : Nat) (l0 : List (S33)) (a1 : Int) (a2 : Int) (r1 : List Int) (r2 : Bool) (w : World) (hr0 : Kd.C k33 w A0 l0.length l0) (hc0 : l0.length ≤ c0) (h : impl_PlayedAt.f k l0 a1 a2 = some (r1, r2)) :
  Calls Tryd.prog 14 #[.slice A0 l0.length c0, .int .i64 a1, .int .i64 a2] w fun e w' => ∃ v0_ : Value, e = .returned (.tuple #[v0_, .bool r2]) ∧ Kd.R (Kd.int .i64) 3 w' w.heap.size (fun _ => True) v0_ r1 ∧ Below w.heap.size w w' := by
 have hu33 := Tryd.underlying33
 have HR0 := Aside0.mk hr0
 have HC0 := Aside0.mk hc0
 clear hr0 hc0
 have HB := Aside0.mk (Below.refl w.heap.size w)
 have H : ((impl_ArePins.f k l0).bind fun o6 => (if o6 = true then ((impl_isShift.f a1).bind fun o7 => (if o7 = true then ((impl_isAngle.f a2).bind fun nY => (impl_PlayedAt.j0 k l0 a1 a2 (!nY))) else (impl_PlayedAt.j0 k l0 a1 a2 true))) else (impl_PlayedAt.j0 k l0 a1 a2 true))) = some (r1, r2) := h
 clear h
 have HC4 := Aside0.mk H
 clear H
 go_enter Tryd.func14, Tryd.ntmps14
 go_upto_region 1 with (fail)
 go_cut [23] (fun t9 wc => ∃ (kq : Nat) (b8 : Bool), t9 = .bool b8 ∧ Aside0 (impl_PlayedAt.j0 kq l0 a1 a2 b8 = some (r1, r2)) ∧ Aside0 (kq ≤ k) ∧ Aside0 (Below w.heap.size w wc))
 case first =>
  have H := HC4.out
  clear HC4
  replace H := Option.bind_eq_some_iff.mp H
  obtain ⟨o6, dG, H⟩ := H
  (try dsimp only at H)
  have A5 := Aside0.mk dG
  clear dG
  by_cases c6 : o6 = true
  ·subst c6
   rw [if_pos rfl] at H
   replace H := Option.bind_eq_some_iff.mp H
   obtain ⟨o7, ed, H⟩ := H
   (try dsimp only at H)
   have A7 := Aside0.mk ed
   clear ed
   by_cases c8 : o7 = true
   ·subst c8
    rw [if_pos rfl] at H
    replace H := Option.bind_eq_some_iff.mp H
    obtain ⟨nY, jG, H⟩ := H
    (try dsimp only at H)
    have A9 := Aside0.mk jG
    clear jG
    have H' := Aside0.mk H
    clear H
    go_wp2_with (first | ((with_reducible refine gate_callee (f := 13) rfl ?_); refine gl_ 12 Tryd.func13 #[.slice A0 l0.length c0] ?_; (with_reducible refine (impl_ArePins.calls k _ _ l0 true _ ?_ ?_ A5.out).mono ?_); exact (Z16 HR0); exact HC0.out; rintro e jE ⟨rfl, hb⟩; refine ⟨_, rfl, ?_⟩; refine k1_ (below_step (Z1) hb) ?_; clear HB; intro HB; (try clear hb)) | (go_at_call 31; (with_reducible refine (impl_isShift.calls a1 true _ A7.out).mono ?_); rintro e w' ⟨rfl, ⟨nd, rfl⟩⟩) | (go_at_call 41; (with_reducible refine (impl_isAngle.calls a2 nY _ A9.out).mono ?_); rintro e w' ⟨rfl, ⟨nd, rfl⟩⟩))
    go_meet
    case rel => exact ⟨_, (!nY), (Z14), H', ⟨Z56⟩, ⟨Z1⟩⟩
   replace c8 := Bool.eq_false_iff.mpr c8
   subst c8
   rw [if_neg (show ¬ (false = true) by decide)] at H
   have H' := Aside0.mk H
   clear H
   go_wp2_with (first | ((with_reducible refine gate_callee (f := 13) rfl ?_); refine gl_ 12 Tryd.func13 #[.slice A0 l0.length c0] ?_; (with_reducible refine (impl_ArePins.calls k _ _ l0 true _ ?_ ?_ A5.out).mono ?_); exact (Z16 HR0); exact HC0.out; rintro e eV ⟨rfl, hb⟩; refine ⟨_, rfl, ?_⟩; refine k1_ (below_step (Z1) hb) ?_; clear HB; intro HB; (try clear hb)) | (go_at_call 31; (with_reducible refine (impl_isShift.calls a1 false _ A7.out).mono ?_); rintro e w' ⟨rfl, ⟨nd, rfl⟩⟩))
   go_meet
   case rel => exact ⟨_, (true), (Z14), H', ⟨Z56⟩, ⟨Z1⟩⟩
  replace c6 := Bool.eq_false_iff.mpr c6
  subst c6
  rw [if_neg (show ¬ (false = true) by decide)] at H
  have H' := Aside0.mk H
  clear H
  go_wp2_with (first | ((with_reducible refine gate_callee (f := 13) rfl ?_); refine gl_ 12 Tryd.func13 #[.slice A0 l0.length c0] ?_; (with_reducible refine (impl_ArePins.calls k _ _ l0 false _ ?_ ?_ A5.out).mono ?_); exact (Z16 HR0); exact HC0.out; rintro e oU ⟨rfl, hb⟩; refine ⟨_, rfl, ?_⟩; refine k1_ (below_step (Z1) hb) ?_; clear HB; intro HB; (try clear hb)))
  go_meet
  case rel => exact ⟨_, (true), (Z14), H', ⟨Z56⟩, ⟨Z1⟩⟩
 case rest =>
  clear HC4
  (try clear c1); (try clear p2); (try clear c6); (try clear c8)
  obtain ⟨kq, b8, rfl, HA, eS, HB⟩ := hcut
  cases kq with
  | zero => exact absurd HA.out (by simp [impl_PlayedAt.j0])
  | succ gw =>
   have H := HA.out
   clear HA
   simp only [impl_PlayedAt.j0] at H
   by_cases c13 : b8 = true
   ·subst c13
    rw [if_pos rfl] at H
    simp only [Option.some.injEq, Prod.mk.injEq] at H
    obtain ⟨rfl, rfl⟩ := H
    go_wp2
    go_ret2
    exact ⟨_, Z11, Z21, Z1⟩
   replace c13 := Bool.eq_false_iff.mpr c13
   subst c13
   rw [if_neg (show ¬ (false = true) by decide)] at H
   obtain ⟨wd, jH⟩ : ∃ y_ : List Int, y_ = (([] : List Int)) := ⟨_, rfl⟩
   replace H : ((impl_tunePins.f gw l0 a1 true).bind fun bl => (impl_PlayedAt.l0 gw a2 wd bl (bl.length : Int) 0)) = some (r1, r2) := by first | (rw [jH]; with_reducible exact H) | (have H2_ := (Option.bind_some _ _).symm.trans H; rw [jH]; with_reducible exact H2_) | (have H2_ := (Option.bind_some _ _).symm.trans H; with_reducible exact H2_) | with_reducible exact H | (rw [jH]; exact H) | exact H
   have rV := Aside0.mk jH
   clear jH
   replace H := Option.bind_eq_some_iff.mp H
   obtain ⟨bl, fg, H⟩ := H
   (try dsimp only at H)
   have qX := Aside0.mk fg
   clear fg
   have H' := Aside0.mk H
   clear H
   go_wp2_with (first | ((with_reducible refine gate_dst (N := 24) rfl ?_); refine Kd.R_lit (Kd.int .i64) _ 3 ?hg (N := 24) ?hd (xs := ([] : List Int)) (inner := []) (ok := fun _ => True) (okp := fun _ => True) ?hr ?hp (fun _ hk => hk) trivial (Below.refl _ _) (Nat.le_refl _) (by simp) ?_; (case hd => rfl); (case hg => rfl); (case hr => exact Z34); (case hp => exact (Reps.none _ _)); intro v412 l7 ho16 hb hg_ hnew_; clear hg_ hnew_; (first | rw [← rV.out] at ho16 | (simp only [Int.reduceToNat] at ho16; rw [← rV.out] at ho16)); refine k2_ (Kd.R_lower ho16 (below_size (Z1))) (below_step (Z1) hb) ?_; clear HB; intro m2 HB; clear hb ho16) | ((with_reducible refine gate_callee (f := 37) rfl ?_); refine gl_ 27 Tryd.func37 #[.slice A0 l0.length c0, .int .i64 a1, .bool true] ?_; (with_reducible refine (impl_tunePins.calls gw _ _ l0 a1 true bl _ ?_ ?_ qX.out).mono ?_); exact (Z16 HR0); exact HC0.out; rintro e mh ⟨v415, rfl, ho0, hb⟩; refine ⟨_, rfl, ?_⟩; refine k3_ (Ya_ m2) (Kd.R_lower ho0 (below_size (Z1))) (below_step (Z1) hb) ?_; clear m2 HB; intro m2 rW HB; (try clear hb ho0); obtain ⟨Ao18, co18, eo18⟩ := Kd.R_slice rW.out; subst eo18))
   (try simp only [Act.put, List.setIfInBounds_toArray, List.set_cons_zero, List.set_cons_succ])
   go_loopg [8, 29] gw (fun kq v8 v29 w' => ∃ (ay : List Int) (aU : Int), v29 = .int .i64 aU ∧ Aside0 (impl_PlayedAt.l0 kq a2 ay bl (bl.length : Int) aU = some (r1, r2)) ∧ Aside0 (kq ≤ gw) ∧ Aside0 (Kd.R (Kd.int .i64) 3 w' w.heap.size (fun _ => True) v8 ay) ∧ Aside0 (Kd.R k33 33 w' w.heap.size (fun _ => True) (.slice Ao18 bl.length co18) bl) ∧ Aside0 (Below w.heap.size w w'))
   case atStart => exact ⟨(wd), (0), (Z14), H', ⟨Nat.le_refl _⟩, ⟨Z2 m2⟩, ⟨Z2 rW⟩, ⟨Z1⟩⟩
   case round =>
    clear H'
    (try clear c3); (try clear c13); (try clear c14)
    obtain ⟨ay, aU, rfl, HA, HK2, ar, dH, HB⟩ := hrel
    cases gk with
    | zero => exact absurd HA.out (by simp [impl_PlayedAt.l0])
    | succ k2 =>
     have H := HA.out
     clear HA
     simp only [impl_PlayedAt.l0] at H
     by_cases c19 : aU < (bl.length : Int)
     ·rw [if_pos c19] at H
      have o8 : decide (aU < (bl.length : Int)) = true := decide_eq_true c19
      clear c19
      by_cases c20 : 0 ≤ aU
      ·rw [if_pos c20] at H
       have o9 : decide (0 ≤ aU) = true := decide_eq_true c20
       clear c20
       by_cases c21 : aU < (bl.length : Int)
       ·rw [if_pos c21] at H
        have pa : decide (aU < (bl.length : Int)) = true := decide_eq_true c21
        clear c21
        by_cases c22 : ((rd_T33 bl aU).f1) = a2
        ·rw [if_pos c22] at H
         have pb : (((rd_T33 bl aU).f1) == a2) = true := beq_iff_eq.mpr c22
         have pc : (((rd_T33 bl aU).f1) != a2) = false := bne_eq_false_iff_eq.mpr c22
         clear c22
         by_cases c23 : ay.length < 17592186044416
         ·rw [if_pos c23] at H
          have pd := Aside0.mk c23
          clear c23
          obtain ⟨we, jI⟩ : ∃ y_ : List Int, y_ = (ay ++ [(rd_T33 bl aU).f0]) := ⟨_, rfl⟩
          replace H : (impl_PlayedAt.l0 k2 a2 we bl (bl.length : Int) (wrap64 (aU + 1))) = some (r1, r2) := by first | (rw [jI]; with_reducible exact H) | (have H2_ := (Option.bind_some _ _).symm.trans H; rw [jI]; with_reducible exact H2_) | (have H2_ := (Option.bind_some _ _).symm.trans H; with_reducible exact H2_) | with_reducible exact H | (rw [jI]; exact H) | exact H
          have Ny419 := Aside0.mk jI
          clear jI
          have H' := Aside0.mk H
          clear H
          have mi : 0 ≤ (aU : Int) := of_decide_eq_true (Z12)
          have mj : aU < (bl.length : Int) := of_decide_eq_true (Z12)
          obtain ⟨ad417, e417, hx417_0, hx417_1, hx417_2⟩ := at_T33 (Kd.R_reads' dH.out).2.2 aU mi mj
          cases e417
          replace mi := eq_true mi
          replace mj := eq_true mj
          go_wp2_with (first | ((with_reducible refine gate_dst (N := 10) rfl ?_); refine bv_ 10 33 #[.int .i64 0, .int .i64 0, .int .i64 0] ?_; intro bW hg nZ hbox hb; refine k6_ (Ya_ ar) (Kd.R_below (Kd.R_elderB (Z2 dH) bW (Nat.le_of_eq hg.symm)) hb) (below_step (Z1) hb) (hbox) ((Z23 : w.heap.size ≤ bW)) ((Z23 : w.heap.size ≤ bW)) ?_; clear ar dH HB; intro ar dH HB fe GW418 rQ; clear hb hbox hg; obtain ⟨m3, m4, m5, m6, m7, m8⟩ := bx3_ (w := nZ) fe.out) | ((with_reducible refine gate_builtin (b := .append) (xs := #[.tmp 37, .tmp 40]) rfl ?_); at_builtin; refine Kd.R_append (Kd.int .i64) (w0 := w) w.heap.size rfl (.tmp 37) (.tmp 40) 34 3 (.int .i64 0) 8 rfl Tryd.underlying34 info3 rfl (by decide) (by omega) u8 ay ((rd_T33 bl aU).f0) [.int .i64 ((rd_T33 bl aU).f0)] (fun _ => True) (fun _ => False) rfl (Z34) ?aP (fun _ hk => hk.elim) ?aF ?aO ?aB ?aS ?aL ?_; (case aP => exact rfl); (case aB => exact Z79); (case aF => exact (fun _ _ => trivial)); (case aO => exact Z83); (case aS => exact (below_size (Z79))); (case aL => exact Z82 pd); intro v420 wg ho hb hg hat; rw [← Ny419.out] at ho; refine k4_ (Kd.R_over' (by (with_reducible repeat (first | apply Kd.R_alloc | apply Kd.R_drewN | apply Kd.R_drew)); exact (Kd.R_mono (Kd.R_far (p := ⟨bW, 2, none⟩) (Kd.R_far (p := ⟨bW, 1, none⟩) (Kd.R_far (p := ⟨bW, 0, none⟩) (Kd.R_mono dH.out (fun k_ hk => (⟨hk, hk.2⟩ : _ ∧ k_ ≠ bW))) (fun _ hk => hk.2) (.int .i64 ((rd_T33 bl aU).f0))) (fun _ hk => hk.2) (.int .i64 ((rd_T33 bl aU).f1))) (fun _ hk => hk.2) (.int .i64 ((rd_T33 bl aU).f2))) (fun _ h_ => h_.1))) (Kd.R_typed (by (with_reducible repeat (first | apply Kd.R_alloc | apply Kd.R_drewN | apply Kd.R_drew)); exact (Kd.R_mono (Kd.R_far (p := ⟨bW, 2, none⟩) (Kd.R_far (p := ⟨bW, 1, none⟩) (Kd.R_far (p := ⟨bW, 0, none⟩) (Kd.R_types ar.out fe.out (by decide)) (fun _ hk => hk.2) (.int .i64 ((rd_T33 bl aU).f0))) (fun _ hk => hk.2) (.int .i64 ((rd_T33 bl aU).f1))) (fun _ hk => hk.2) (.int .i64 ((rd_T33 bl aU).f2))) (fun _ h_ => h_.1)))) (by decide) hg) (blk_grown (g := bW) (o := .cells #[.int .i64 ((rd_T33 bl aU).f0), .int .i64 ((rd_T33 bl aU).f1), .int .i64 ((rd_T33 bl aU).f2)] 33 (0, 0)) (by (with_reducible repeat (first | refine blk_drewN ?_ _ | refine blk_drew ?_ | refine blk_alloc ?_ _)); refine blk_put (cs := #[.int .i64 ((rd_T33 bl aU).f0), .int .i64 ((rd_T33 bl aU).f1), .int .i64 0]) ?_ 2 _ rfl; (with_reducible repeat (first | refine blk_drewN ?_ _ | refine blk_drew ?_ | refine blk_alloc ?_ _)); refine blk_put (cs := #[.int .i64 ((rd_T33 bl aU).f0), .int .i64 0, .int .i64 0]) ?_ 1 _ rfl; (with_reducible repeat (first | refine blk_drewN ?_ _ | refine blk_drew ?_ | refine blk_alloc ?_ _)); refine blk_put (cs := #[.int .i64 0, .int .i64 0, .int .i64 0]) ?_ 0 _ rfl; (with_reducible repeat (first | refine blk_drewN ?_ _ | refine blk_drew ?_ | refine blk_alloc ?_ _)); exact fe.out) hg (Kd.R_ne ar.out fe.out (by decide))) (hb) (ho) ?_; clear dH fe HB ar; intro dH fe HB HO421; clear ho hb hg hat))
          go_roundg k2
          case measure => have := eS.out; have := HK2.out; omega
          case rel => exact ⟨(we), (wrap64 (aU + 1)), (Z14), H', ⟨Z74⟩, ⟨Z2 HO421⟩, ⟨Z26 dH⟩, ⟨Z79⟩⟩
         rw [if_neg c23] at H
         exact absurd H (by simp)
        rw [if_neg c22] at H
        have pb : (((rd_T33 bl aU).f1) == a2) = false := beq_eq_false_iff_ne.mpr c22
        have pc : (((rd_T33 bl aU).f1) != a2) = true := bne_iff_ne.mpr c22
        have H' := Aside0.mk H
        clear H
        have mi : 0 ≤ (aU : Int) := of_decide_eq_true (Z12)
        have mj : aU < (bl.length : Int) := of_decide_eq_true (Z12)
        obtain ⟨ad417, e417, hx417_0, hx417_1, hx417_2⟩ := at_T33 (Kd.R_reads' dH.out).2.2 aU mi mj
        cases e417
        replace mi := eq_true mi
        replace mj := eq_true mj
        go_wp2_with (first | ((with_reducible refine gate_dst (N := 10) rfl ?_); refine bv_ 10 33 #[.int .i64 0, .int .i64 0, .int .i64 0] ?_; intro bW hg qY hbox hb; refine k6_ (Ya_ ar) (Kd.R_below (Kd.R_elderB (Z2 dH) bW (Nat.le_of_eq hg.symm)) hb) (below_step (Z1) hb) (hbox) ((Z23 : w.heap.size ≤ bW)) ((Z23 : w.heap.size ≤ bW)) ?_; clear ar dH HB; intro ar dH HB fe GW418 rQ; clear hb hbox hg; obtain ⟨hcz28_0, hcz28_1, hcz28_2, hfz28_0, hfz28_1, hfz28_2⟩ := bx3_ (w := qY) fe.out))
        go_roundg k2
        case measure => have := eS.out; have := HK2.out; omega
        case rel => exact ⟨(ay), (wrap64 (aU + 1)), (Z14), H', ⟨Z74⟩, ⟨Z83⟩, ⟨by (with_reducible repeat (first | apply Kd.R_alloc | apply Kd.R_drewN | apply Kd.R_drew)); exact Kd.R_mono (Kd.R_far (p := ⟨bW, 2, none⟩) (Kd.R_far (p := ⟨bW, 1, none⟩) (Kd.R_far (p := ⟨bW, 0, none⟩) (Kd.R_mono dH.out (fun k_ hk => (⟨hk, hk.2⟩ : _ ∧ k_ ≠ bW))) (fun _ hk => hk.2) (.int .i64 ((rd_T33 bl aU).f0))) (fun _ hk => hk.2) (.int .i64 ((rd_T33 bl aU).f1))) (fun _ hk => hk.2) (.int .i64 ((rd_T33 bl aU).f2))) (fun _ hk => trivial)⟩, ⟨Z79⟩⟩
       rw [if_neg c21] at H
       exact absurd H (by simp)
      rw [if_neg c20] at H
      exact absurd H (by simp)
     rw [if_neg c19] at H
     have o8 : decide (aU < (bl.length : Int)) = false := decide_eq_false c19
     clear c19
     simp only [Option.some.injEq, Prod.mk.injEq] at H
     obtain ⟨rfl, rfl⟩ := H
     go_wp2
     go_ret2
     exact ⟨_, Z11, Z2 ar, Z1⟩

/-! ### laws_pIn: function 15 -/
def laws_pIn.l0 : Nat → Int → List Int → Int → Int → Option (Bool)
 | 0, _, _, _, _ => none
 | k + 1, x1, x7, x8, x9 => if x9 < x8 then (if 0 ≤ x9 then (if x9 < (x7.length : Int) then (if (rd x7 x9) = x1 then (some true) else (laws_pIn.l0 k x1 x7 x8 (wrap64 (x9 + 1)))) else (none)) else (none)) else (some false)
def laws_pIn.f (k : Nat) (l0 : List Int) (a1 : Int) : Option (Bool) := laws_pIn.l0 k a1 l0 (l0.length : Int) 0
theorem laws_pIn.mono_l : ∀ k, (∀ y0 y1 y2 y3, LeO (laws_pIn.l0 k y0 y1 y2 y3) (laws_pIn.l0 (k + 1) y0 y1 y2 y3))
 | 0 => fun _ _ _ _ r h => by simp [laws_pIn.l0] at h
 | k + 1 => by
  have ih0 := laws_pIn.mono_l k
  ·intro y0 y1 y2 y3
   unfold laws_pIn.l0
   exact mo11_
theorem laws_pIn.mono : ∀ a0 a1 k, LeO (laws_pIn.f k a0 a1) (laws_pIn.f (k + 1) a0 a1) := by
 intro a0 a1 k
 have ih0 := laws_pIn.mono_l k
 unfold laws_pIn.f
 exact mo11_
set_option maxHeartbeats 8000000 in
set_option maxRecDepth 100000 in
theorem laws_pIn.calls (k : Nat) (A0 : Option Addr) (c0 : Nat) (l0 : List Int) (a1 : Int) (r : Bool) (w : World) (hr0 : Kd.C (Kd.int .i64) w A0 l0.length l0) (hc0 : l0.length ≤ c0) (h : laws_pIn.f k l0 a1 = some r) :
  Calls Tryd.prog 15 #[.slice A0 l0.length c0, .int .i64 a1] w fun e w' => e = .returned (.bool r) ∧ Drawn0 w w' := by
 have HR0 := Aside0.mk hr0
 have HC0 := Aside0.mk hc0
 clear hr0 hc0
 have H : (laws_pIn.l0 k a1 l0 (l0.length : Int) 0) = some r := h
 clear h
 have H' := Aside0.mk H
 clear H
 go_enter Tryd.func15, Tryd.ntmps15
 go_wp2
 go_loopg [9] k (fun kq v9 w' => ∃ (bA : Int), v9 = .int .i64 bA ∧ Aside0 (laws_pIn.l0 kq a1 l0 (l0.length : Int) bA = some r) ∧ Aside0 (kq ≤ k) ∧ Drawn0 w w')
 case atStart => exact ⟨(0), (Z14), H', ⟨Nat.le_refl _⟩, Z43⟩
 case round =>
  clear H'
  (try clear c1); (try clear p2)
  obtain ⟨bA, rfl, HA, HK1, ⟨m1, rfl⟩⟩ := hrel
  cases gk with
  | zero => exact absurd HA.out (by simp [laws_pIn.l0])
  | succ k1 =>
   have H := HA.out
   clear HA
   simp only [laws_pIn.l0] at H
   by_cases c3 : bA < (l0.length : Int)
   ·rw [if_pos c3] at H
    have dE : decide (bA < (l0.length : Int)) = true := decide_eq_true c3
    clear c3
    by_cases c4 : 0 ≤ bA
    ·rw [if_pos c4] at H
     have cy : decide (0 ≤ bA) = true := decide_eq_true c4
     clear c4
     by_cases c5 : bA < (l0.length : Int)
     ·rw [if_pos c5] at H
      have e3 : decide (bA < (l0.length : Int)) = true := decide_eq_true c5
      clear c5
      by_cases c6 : (rd l0 bA) = a1
      ·rw [if_pos c6] at H
       have en : ((rd l0 bA) == a1) = true := beq_iff_eq.mpr c6
       have qZ : ((rd l0 bA) != a1) = false := bne_eq_false_iff_eq.mpr c6
       clear c6
       obtain rfl := Option.some.inj H
       have ml : 0 ≤ (bA : Int) := of_decide_eq_true (Z12)
       have mm : bA < (l0.length : Int) := of_decide_eq_true (Z12)
       obtain ⟨ad422, e422, hx422_0⟩ := Kd.at_int HR0.out bA ml mm
       cases e422
       replace ml := eq_true ml
       replace mm := eq_true mm
       go_wp2
       go_ret
       exact ⟨Z14, Z43⟩
      rw [if_neg c6] at H
      have en : ((rd l0 bA) == a1) = false := beq_eq_false_iff_ne.mpr c6
      have qZ : ((rd l0 bA) != a1) = true := bne_iff_ne.mpr c6
      have H' := Aside0.mk H
      clear H
      have ml : 0 ≤ (bA : Int) := of_decide_eq_true (Z12)
      have mm : bA < (l0.length : Int) := of_decide_eq_true (Z12)
      obtain ⟨ad422, e422, hx422_0⟩ := Kd.at_int HR0.out bA ml mm
      cases e422
      replace ml := eq_true ml
      replace mm := eq_true mm
      go_wp2
      go_roundg k1
      case measure => have := HK1.out; omega
      case rel => exact ⟨(wrap64 (bA + 1)), (Z14), H', ⟨Z82 HK1⟩, Z43⟩
     rw [if_neg c5] at H
     exact absurd H (by simp)
    rw [if_neg c4] at H
    exact absurd H (by simp)
   rw [if_neg c3] at H
   have dE : decide (bA < (l0.length : Int)) = false := decide_eq_false c3
   clear c3
   obtain rfl := Option.some.inj H
   go_wp2
   go_ret
   exact ⟨Z14, Z43⟩

/-! ### spec_DrawSwapTunes: function 16 -/
def spec_DrawSwapTunes.f (k : Nat) (l0 : List Int) : Option ((List (S33)) × Int × Int) := (spec_l1Cur_pins.f k l0 0 0).bind fun gZ => ((spec_l1Cur_shiftOf.f l0 gZ.2.1 gZ.2.2).bind fun g0 => ((spec_l1Cur_shiftOf.f l0 g0.2.1 g0.2.2).bind fun pe => (some (gZ.1, g0.1, pe.1))))
theorem spec_DrawSwapTunes.mono : ∀ a0 k, LeO (spec_DrawSwapTunes.f k a0) (spec_DrawSwapTunes.f (k + 1) a0) := by
 intro a0 k
 unfold spec_DrawSwapTunes.f
 exact mo11_
set_option maxHeartbeats 8000000 in
set_option maxRecDepth 100000 in
theorem spec_DrawSwapTunes.calls (k : Nat) (A0 : Option Addr) (c0 : Nat) (l0 : List Int) (r1 : List (S33)) (r2 : Int) (r3 : Int) (w : World) (hr0 : Kd.C (Kd.int .u8) w A0 l0.length l0) (hc0 : l0.length ≤ c0) (h : spec_DrawSwapTunes.f k l0 = some (r1, r2, r3)) :
  Calls Tryd.prog 16 #[.slice A0 l0.length c0] w fun e w' => ∃ v0_ : Value, e = .returned (.tuple #[v0_, .int .i64 r2, .int .i64 r3]) ∧ Kd.R k33 33 w' w.heap.size (fun _ => True) v0_ r1 ∧ Below w.heap.size w w' := by
 have hu47 := Tryd.underlying47
 have HR0 := Aside0.mk hr0
 have HC0 := Aside0.mk hc0
 clear hr0 hc0
 have HB := Aside0.mk (Below.refl w.heap.size w)
 have H : ((spec_l1Cur_pins.f k l0 0 0).bind fun gZ => ((spec_l1Cur_shiftOf.f l0 gZ.2.1 gZ.2.2).bind fun g0 => ((spec_l1Cur_shiftOf.f l0 g0.2.1 g0.2.2).bind fun pe => (some (gZ.1, g0.1, pe.1))))) = some (r1, r2, r3) := h
 clear h
 replace H := Option.bind_eq_some_iff.mp H
 obtain ⟨⟨t424, ua, ub⟩, cr, H⟩ := H
 (try dsimp only at H)
 have A2 := Aside0.mk cr
 clear cr
 replace H := Option.bind_eq_some_iff.mp H
 obtain ⟨⟨t429, uc, ud⟩, dF, H⟩ := H
 (try dsimp only at H)
 have A3 := Aside0.mk dF
 clear dF
 replace H := Option.bind_eq_some_iff.mp H
 obtain ⟨⟨t432, t433, t434⟩, ff, H⟩ := H
 (try dsimp only at H)
 have A4 := Aside0.mk ff
 clear ff
 simp only [Option.some.injEq, Prod.mk.injEq] at H
 obtain ⟨rfl, rfl, rfl⟩ := H
 go_enter Tryd.func16, Tryd.ntmps16
 go_wp2_with (first | ((with_reducible refine gate_dst (N := 8) rfl ?_); refine bv_ 8 47 #[.slice A0 l0.length c0, .int .i64 0, .int .u64 0] ?_; intro ev hg w5 hbox hb; refine k4_ (below_step (Z1) hb) ((show IsS47 w w5 ev l0 0 0 from ⟨_, _, hbox, (Z23), HR0.out⟩)) ((Z23 : w.heap.size ≤ ev)) ((Z23 : w.heap.size ≤ ev)) ?_; clear HB; intro HB HI423 GW423 GE423; clear hb hbox hg) | ((with_reducible refine gate_callee (f := 28) rfl ?_); refine gl_ 10 Tryd.func28 #[.pointer (some ⟨ev, 0, none⟩)] ?_; (with_reducible refine (spec_l1Cur_pins.calls k ev l0 0 0 t424 ua ub w _ ?_ ?_ A2.out).mono ?_); exact (Z3 HI423); exact Z65; rintro e w6 ⟨v425, rfl, ho0, hi, hb, hk⟩; refine ⟨_, rfl, ?_⟩; refine k3_ (Kd.R_lower ho0 (below_size (Z65))) (hb) (hi) ?_; clear HB HI423; intro g1 HB HI423; (try clear hb hk hi ho0)) | ((with_reducible refine gate_callee (f := 29) rfl ?_); refine gl_ 12 Tryd.func29 #[.pointer (some ⟨ev, 0, none⟩)] ?_; (with_reducible refine (spec_l1Cur_shiftOf.calls ev l0 ua ub t429 uc ud w _ ?_ ?_ A3.out).mono ?_); exact (Z3 HI423); exact Z65; rintro e w7 ⟨rfl, hi, hb, hk⟩; refine ⟨_, rfl, ?_⟩; refine k3_ (Kd.R_mono (Kd.R_keep (IsS47.apart (show IsS47 w _ ev l0 ua ub from Z3 HI423) (Z2 g1) (by decide)) hk (fun _ h => h.2)) (fun _ h => h.1)) (hb) (hi) ?_; clear g1 HB HI423; intro g1 HB HI423; (try clear hb hk hi)) | ((with_reducible refine gate_callee (f := 29) rfl ?_); refine gl_ 14 Tryd.func29 #[.pointer (some ⟨ev, 0, none⟩)] ?_; (with_reducible refine (spec_l1Cur_shiftOf.calls ev l0 uc ud t432 t433 t434 w _ ?_ ?_ A4.out).mono ?_); exact (Z3 HI423); exact Z65; rintro e w8 ⟨rfl, hi, hb, hk⟩; refine ⟨_, rfl, ?_⟩; refine k3_ (Kd.R_mono (Kd.R_keep (IsS47.apart (show IsS47 w _ ev l0 uc ud from Z3 HI423) (Z2 g1) (by decide)) hk (fun _ h => h.2)) (fun _ h => h.1)) (hb) (hi) ?_; clear g1 HB HI423; intro g1 HB HI423; (try clear hb hk hi)))
 go_ret3
 exact ⟨_, Z11, Z2 g1, Z65⟩

/-! ### impl_SwapTunes: function 17 -/
mutual
def impl_SwapTunes.j0 : Nat → List (S33) → Int → Int → Bool → Option ((List (S33)) × Bool)
 | 0, _, _, _, _ => none
 | k + 1, x0, x1, x2, x22 => if x22 = true then (some (([] : List (S33)), false)) else ((slices_Clone_Pin.f x0).bind fun gh => (impl_SwapTunes.l0 k x1 x2 gh (gh.length : Int) 0))
def impl_SwapTunes.l0 : Nat → Int → Int → List (S33) → Int → Int → Option ((List (S33)) × Bool)
 | 0, _, _, _, _, _ => none
 | k + 1, x1, x2, x8, x26, x27 => if x27 < x26 then (if 0 ≤ x27 then (if x27 < (x8.length : Int) then (if ((rd_T33 x8 x27).f2) = x1 then (impl_SwapTunes.l0 k x1 x2 (x8.set (x27 : Int).toNat (⟨(rd_T33 x8 x27).f0, (rd_T33 x8 x27).f1, x2⟩ : S33)) x26 (wrap64 (x27 + 1))) else (if ((rd_T33 x8 x27).f2) = x2 then (impl_SwapTunes.l0 k x1 x2 (x8.set (x27 : Int).toNat (⟨(rd_T33 x8 x27).f0, (rd_T33 x8 x27).f1, x1⟩ : S33)) x26 (wrap64 (x27 + 1))) else (impl_SwapTunes.l0 k x1 x2 x8 x26 (wrap64 (x27 + 1))))) else (none)) else (none)) else ((impl_pinsOf.f k x8).bind fun rX => (some (rX.1, rX.2)))
end
def impl_SwapTunes.f (k : Nat) (l0 : List (S33)) (a1 : Int) (a2 : Int) : Option ((List (S33)) × Bool) := (impl_ArePins.f k l0).bind fun pf => (if pf = true then ((impl_isShift.f a1).bind fun pg => (if pg = true then ((impl_isShift.f a2).bind fun n0 => (impl_SwapTunes.j0 k l0 a1 a2 (!n0))) else (impl_SwapTunes.j0 k l0 a1 a2 true))) else (impl_SwapTunes.j0 k l0 a1 a2 true))
theorem impl_SwapTunes.mono_l : ∀ k, (∀ y0 y1 y2 y3, LeO (impl_SwapTunes.j0 k y0 y1 y2 y3) (impl_SwapTunes.j0 (k + 1) y0 y1 y2 y3)) ∧ (∀ y0 y1 y2 y3 y4, LeO (impl_SwapTunes.l0 k y0 y1 y2 y3 y4) (impl_SwapTunes.l0 (k + 1) y0 y1 y2 y3 y4))
 | 0 => ⟨fun _ _ _ _ r h => by simp [impl_SwapTunes.j0] at h, fun _ _ _ _ _ r h => by simp [impl_SwapTunes.l0] at h⟩
 | k + 1 => by
  obtain ⟨ih0, ih1⟩ := impl_SwapTunes.mono_l k
  refine ⟨?_, ?_⟩
  ·intro y0 y1 y2 y3
   unfold impl_SwapTunes.j0
   exact mo11_
  intro y0 y1 y2 y3 y4
  unfold impl_SwapTunes.l0
  exact mo11_
theorem impl_SwapTunes.mono : ∀ a0 a1 a2 k, LeO (impl_SwapTunes.f k a0 a1 a2) (impl_SwapTunes.f (k + 1) a0 a1 a2) := by
 intro a0 a1 a2 k
 obtain ⟨ih0, ih1⟩ := impl_SwapTunes.mono_l k
 unfold impl_SwapTunes.f
 exact mo11_
set_option maxHeartbeats 8000000 in
set_option maxRecDepth 100000 in
theorem impl_SwapTunes.calls (k : Nat) (A0 : Option Addr) (c0 : Nat) (l0 : List (S33)) (a1 : Int) (a2 : Int) (r1 : List (S33)) (r2 : Bool) (w : World) (hr0 : Kd.C k33 w A0 l0.length l0) (hc0 : l0.length ≤ c0) (h : impl_SwapTunes.f k l0 a1 a2 = some (r1, r2)) :
  Calls Tryd.prog 17 #[.slice A0 l0.length c0, .int .i64 a1, .int .i64 a2] w fun e w' => ∃ v0_ : Value, e = .returned (.tuple #[v0_, .bool r2]) ∧ Kd.R k33 33 w' w.heap.size (fun _ => True) v0_ r1 ∧ Below w.heap.size w w' := by
 have HR0 := Aside0.mk hr0
 have HC0 := Aside0.mk hc0
 clear hr0 hc0
 have HB := Aside0.mk (Below.refl w.heap.size w)
 have H : ((impl_ArePins.f k l0).bind fun pf => (if pf = true then ((impl_isShift.f a1).bind fun pg => (if pg = true then ((impl_isShift.f a2).bind fun n0 => (impl_SwapTunes.j0 k l0 a1 a2 (!n0))) else (impl_SwapTunes.j0 k l0 a1 a2 true))) else (impl_SwapTunes.j0 k l0 a1 a2 true))) = some (r1, r2) := h
 clear h
 have HC4 := Aside0.mk H
 clear H
 go_enter Tryd.func17, Tryd.ntmps17
 go_upto_region 1 with (fail)
 go_cut [22] (fun yn wc => ∃ (kq : Nat) (m9 : Bool), yn = .bool m9 ∧ Aside0 (impl_SwapTunes.j0 kq l0 a1 a2 m9 = some (r1, r2)) ∧ Aside0 (kq ≤ k) ∧ Aside0 (Below w.heap.size w wc))
 case first =>
  have H := HC4.out
  clear HC4
  replace H := Option.bind_eq_some_iff.mp H
  obtain ⟨pf, dG, H⟩ := H
  (try dsimp only at H)
  have A5 := Aside0.mk dG
  clear dG
  by_cases c6 : pf = true
  ·subst c6
   rw [if_pos rfl] at H
   replace H := Option.bind_eq_some_iff.mp H
   obtain ⟨pg, ed, H⟩ := H
   (try dsimp only at H)
   have A7 := Aside0.mk ed
   clear ed
   by_cases c8 : pg = true
   ·subst c8
    rw [if_pos rfl] at H
    replace H := Option.bind_eq_some_iff.mp H
    obtain ⟨n0, jG, H⟩ := H
    (try dsimp only at H)
    have A9 := Aside0.mk jG
    clear jG
    have H' := Aside0.mk H
    clear H
    go_wp2_with (first | ((with_reducible refine gate_callee (f := 13) rfl ?_); refine gl_ 11 Tryd.func13 #[.slice A0 l0.length c0] ?_; (with_reducible refine (impl_ArePins.calls k _ _ l0 true _ ?_ ?_ A5.out).mono ?_); exact (Z16 HR0); exact HC0.out; rintro e jE ⟨rfl, hb⟩; refine ⟨_, rfl, ?_⟩; refine k1_ (below_step (Z1) hb) ?_; clear HB; intro HB; (try clear hb)) | (go_at_call 31; (with_reducible refine (impl_isShift.calls a1 true _ A7.out).mono ?_); rintro e w' ⟨rfl, ⟨nd, rfl⟩⟩) | (go_at_call 31; (with_reducible refine (impl_isShift.calls a2 n0 _ A9.out).mono ?_); rintro e w' ⟨rfl, ⟨nd, rfl⟩⟩))
    go_meet
    case rel => exact ⟨_, (!n0), (Z14), H', ⟨Z56⟩, ⟨Z1⟩⟩
   replace c8 := Bool.eq_false_iff.mpr c8
   subst c8
   rw [if_neg (show ¬ (false = true) by decide)] at H
   have H' := Aside0.mk H
   clear H
   go_wp2_with (first | ((with_reducible refine gate_callee (f := 13) rfl ?_); refine gl_ 11 Tryd.func13 #[.slice A0 l0.length c0] ?_; (with_reducible refine (impl_ArePins.calls k _ _ l0 true _ ?_ ?_ A5.out).mono ?_); exact (Z16 HR0); exact HC0.out; rintro e eV ⟨rfl, hb⟩; refine ⟨_, rfl, ?_⟩; refine k1_ (below_step (Z1) hb) ?_; clear HB; intro HB; (try clear hb)) | (go_at_call 31; (with_reducible refine (impl_isShift.calls a1 false _ A7.out).mono ?_); rintro e w' ⟨rfl, ⟨nd, rfl⟩⟩))
   go_meet
   case rel => exact ⟨_, (true), (Z14), H', ⟨Z56⟩, ⟨Z1⟩⟩
  replace c6 := Bool.eq_false_iff.mpr c6
  subst c6
  rw [if_neg (show ¬ (false = true) by decide)] at H
  have H' := Aside0.mk H
  clear H
  go_wp2_with (first | ((with_reducible refine gate_callee (f := 13) rfl ?_); refine gl_ 11 Tryd.func13 #[.slice A0 l0.length c0] ?_; (with_reducible refine (impl_ArePins.calls k _ _ l0 false _ ?_ ?_ A5.out).mono ?_); exact (Z16 HR0); exact HC0.out; rintro e oU ⟨rfl, hb⟩; refine ⟨_, rfl, ?_⟩; refine k1_ (below_step (Z1) hb) ?_; clear HB; intro HB; (try clear hb)))
  go_meet
  case rel => exact ⟨_, (true), (Z14), H', ⟨Z56⟩, ⟨Z1⟩⟩
 case rest =>
  clear HC4
  (try clear c1); (try clear p2); (try clear c6); (try clear c8)
  obtain ⟨kq, m9, rfl, HA, eS, HB⟩ := hcut
  cases kq with
  | zero => exact absurd HA.out (by simp [impl_SwapTunes.j0])
  | succ gw =>
   have H := HA.out
   clear HA
   simp only [impl_SwapTunes.j0] at H
   by_cases c13 : m9 = true
   ·subst c13
    rw [if_pos rfl] at H
    simp only [Option.some.injEq, Prod.mk.injEq] at H
    obtain ⟨rfl, rfl⟩ := H
    go_wp2
    go_ret2
    exact ⟨_, Z11, Z21, Z1⟩
   replace c13 := Bool.eq_false_iff.mpr c13
   subst c13
   rw [if_neg (show ¬ (false = true) by decide)] at H
   replace H := Option.bind_eq_some_iff.mp H
   obtain ⟨gh, fg, H⟩ := H
   (try dsimp only at H)
   have qX := Aside0.mk fg
   clear fg
   have H' := Aside0.mk H
   clear H
   go_wp2_with (first | ((with_reducible refine gate_callee (f := 42) rfl ?_); refine gl_ 24 Tryd.func42 #[.slice A0 l0.length c0] ?_; (with_reducible refine (slices_Clone_Pin.calls _ _ l0 gh _ ?_ ?_ qX.out).mono ?_); exact (Z16 HR0); exact HC0.out; rintro e l7 ⟨v439, rfl, ho0, hb⟩; refine ⟨_, rfl, ?_⟩; refine k2_ (Kd.R_lower ho0 (below_size (Z1))) (below_step (Z1) hb) ?_; clear HB; intro rY HB; (try clear hb ho0); obtain ⟨mo, g2, mq⟩ := Kd.R_slice rY.out; subst mq))
   (try simp only [Act.put, List.setIfInBounds_toArray, List.set_cons_zero, List.set_cons_succ])
   go_loopg [27] gw (fun kq yo w' => ∃ (ay : List (S33)) (aq : Int), yo = .int .i64 aq ∧ Aside0 (impl_SwapTunes.l0 kq a1 a2 ay (gh.length : Int) aq = some (r1, r2)) ∧ Aside0 (kq ≤ gw) ∧ Aside0 (Kd.R k33 33 w' w.heap.size (fun _ => True) (.slice mo gh.length g2) ay) ∧ Aside0 (Below w.heap.size w w'))
   case atStart => exact ⟨(gh), (0), (Z14), H', ⟨Nat.le_refl _⟩, ⟨Z2 rY⟩, ⟨Z1⟩⟩
   case round =>
    clear H'
    (try clear c4); (try clear c13)
    obtain ⟨ay, aq, rfl, HA, HK2, ar, HB⟩ := hrel
    have hl8_2 := (Kd.R_reads' ar.out).1
    rw [hl8_2] at ar
    (try simp only [hl8_2])
    cases gk with
    | zero => exact absurd HA.out (by simp [impl_SwapTunes.l0])
    | succ k2 =>
     have H := HA.out
     clear HA
     simp only [impl_SwapTunes.l0] at H
     by_cases c17 : aq < (gh.length : Int)
     ·rw [if_pos c17] at H
      have ee : decide (aq < (gh.length : Int)) = true := decide_eq_true c17
      (try (have c17b9_8_2 : decide (aq < (ay.length : Int)) = true := by rw [← hl8_2]; exact ee))
      clear c17
      by_cases c18 : 0 ≤ aq
      ·rw [if_pos c18] at H
       have jJ : decide (0 ≤ aq) = true := decide_eq_true c18
       clear c18
       by_cases c19 : aq < (ay.length : Int)
       ·rw [if_pos c19] at H
        have o8 : decide (aq < (ay.length : Int)) = true := decide_eq_true c19
        clear c19
        by_cases c20 : ((rd_T33 ay aq).f2) = a1
        ·rw [if_pos c20] at H
         have o9 : (((rd_T33 ay aq).f2) == a1) = true := beq_iff_eq.mpr c20
         have c20b1 : (((rd_T33 ay aq).f2) != a1) = false := bne_eq_false_iff_eq.mpr c20
         clear c20
         obtain ⟨ue, jK⟩ : ∃ y_ : List (S33), y_ = (ay.set (aq : Int).toNat (⟨(rd_T33 ay aq).f0, (rd_T33 ay aq).f1, a2⟩ : S33)) := ⟨_, rfl⟩
         replace H : (impl_SwapTunes.l0 k2 a1 a2 ue (gh.length : Int) (wrap64 (aq + 1))) = some (r1, r2) := by first | (rw [jK]; with_reducible exact H) | (have H2_ := (Option.bind_some _ _).symm.trans H; rw [jK]; with_reducible exact H2_) | (have H2_ := (Option.bind_some _ _).symm.trans H; with_reducible exact H2_) | with_reducible exact H | (rw [jK]; exact H) | exact H
         have Ny446 := Aside0.mk jK
         clear jK
         have H' := Aside0.mk H
         clear H
         have g3 : 0 ≤ (aq : Int) := of_decide_eq_true (Z12)
         have g4 : aq < (ay.length : Int) := of_decide_eq_true (Z12)
         obtain ⟨rZ, e445, gx, gy, gz⟩ := at_T33 (Kd.R_reads' ar.out).2.2 aq g3 g4
         cases e445
         replace g3 := eq_true g3
         replace g4 := eq_true g4
         have yp : 0 ≤ (aq : Int) := of_decide_eq_true (Z12)
         have yq : (aq : Int) < ((ay.length : Int) : Int) := of_decide_eq_true (Z12)
         obtain ⟨go21, co21, wh, wi, gl21, cl21, HG21⟩ := Kd.R_form ar.out (by omega)
         (first | cases wh | (injection wh with ea_ en_ ec_; (first | subst ea_ | (injection ea_ with ea_; subst ea_)); subst ec_; clear en_))
         have GB21 := Aside0.mk wi
         have GG21 := Aside0.mk HG21
         clear wi gl21 HG21
         (first | simp only [add_plain] at gx | skip)
         (first | simp only [add_plain] at gy | skip)
         (first | simp only [add_plain] at gz | skip)
         obtain ⟨ce21, hcl21, hM21, hcc21, hfr21⟩ := Kd.R_elem ar.out z33 (aq : Int) yp yq
         obtain rfl := k33_openM hM21
         have hx21_0 : wr.cell? ⟨go21, (aq : Int).toNat * 3, none⟩ = some (.int .i64 ((rd_T33 ay aq).f0)) := hcc21 0 _ rfl
         have hx21_1 : wr.cell? ⟨go21, (aq : Int).toNat * 3 + 1, none⟩ = some (.int .i64 ((rd_T33 ay aq).f1)) := hcc21 1 _ rfl
         have hx21_2 : wr.cell? ⟨go21, (aq : Int).toNat * 3 + 2, none⟩ = some (.int .i64 ((rd_T33 ay aq).f2)) := hcc21 2 _ rfl
         have hf21_0 : wr.frozen? ⟨go21, (aq : Int).toNat * 3, none⟩ = false := hfr21 0
         have hf21_1 : wr.frozen? ⟨go21, (aq : Int).toNat * 3 + 1, none⟩ = false := hfr21 1
         have hf21_2 : wr.frozen? ⟨go21, (aq : Int).toNat * 3 + 2, none⟩ = false := hfr21 2
         clear hcl21 hcc21 hfr21 hM21
         replace yp := eq_true yp
         replace yq := eq_true yq
         have HX22 := Aside0.mk (show Kd.R k33 33 wr w.heap.size (fun _ => True) (.slice (some ⟨go21, 0, none⟩) ay.length g2) ay from (Z2 ar))
         obtain ⟨ce22, hcl22, hM22, hcc22, hfr22⟩ := Kd.R_elem HX22.out z33 (aq : Int) (of_decide_eq_true (Z12)) (Z81)
         obtain rfl := k33_openM hM22
         have HP22 := Kd.R_seg HX22.out (aq : Int) (of_decide_eq_true (Z12)) (Z81) (seg := [.int .i64 a2]) (j := 2) hcl22 hcc22 (show 3 ≤ 3 from by decide) (x' := (⟨(rd_T33 ay aq).f0, (rd_T33 ay aq).f1, a2⟩ : S33)) (k33_mkM _ _ _ (⟨(rd_T33 ay aq).f0, (rd_T33 ay aq).f1, a2⟩ : S33) ) (fun _ hk => hk)
         have hx22_2 := hcc22 2 _ rfl
         (try simp only [show (k33).sz = 3 from rfl, Nat.mul_one, Nat.add_zero] at hx22_2)
         have hf22_2 := hfr22 2
         (try simp only [show (k33).sz = 3 from rfl, Nat.mul_one, Nat.add_zero] at hf22_2)
         clear hcl22 hcc22 hfr22 hM22
         go_wp2_with (first | ((with_reducible refine gate_store (t := 3) (p := 42) rfl ?_); refine store_event (t := 3) (p := 42) (v := ?vo_w23) (w1 := (wr.setCell ⟨go21, (aq : Int).toNat * 3 + 2, none⟩ (.int .i64 a2))) ?hg ?ho ?hn ?hr ?_; (case ho => rfl); (case hg => rfl); (case hn => rfl); (case hr => exact Z34); intro oB hw; have hg : wr.grownBy oB (some go21) := (by rw [hw]; exact HP22.2); have hp_ : Kd.R k33 33 oB w.heap.size (fun _ => True) (.slice (some ⟨go21, 0, none⟩) ay.length g2) ue := (by rw [hw, Ny446.out]; exact HP22.1); clear HP22; refine k2_ (hp_) ((by rw [hw]; exact below_set (HB.out) GB21.out : Below w.heap.size w oB)) ?_; clear ar HB; intro ar HB; clear hg hw hp_))
         (try simp only [← hl8_2])
         go_roundg k2
         case measure => have := eS.out; have := HK2.out; omega
         case rel => exact ⟨(ue), (wrap64 (aq + 1)), (Z14), H', ⟨Z74⟩, ⟨Z97⟩, ⟨Z1⟩⟩
        rw [if_neg c20] at H
        have o9 : (((rd_T33 ay aq).f2) == a1) = false := beq_eq_false_iff_ne.mpr c20
        have c20b1 : (((rd_T33 ay aq).f2) != a1) = true := bne_iff_ne.mpr c20
        by_cases c24 : ((rd_T33 ay aq).f2) = a2
        ·rw [if_pos c24] at H
         have c24b0 : (((rd_T33 ay aq).f2) == a2) = true := beq_iff_eq.mpr c24
         have c24b1 : (((rd_T33 ay aq).f2) != a2) = false := bne_eq_false_iff_eq.mpr c24
         clear c24
         obtain ⟨uf, jL⟩ : ∃ y_ : List (S33), y_ = (ay.set (aq : Int).toNat (⟨(rd_T33 ay aq).f0, (rd_T33 ay aq).f1, a1⟩ : S33)) := ⟨_, rfl⟩
         replace H : (impl_SwapTunes.l0 k2 a1 a2 uf (gh.length : Int) (wrap64 (aq + 1))) = some (r1, r2) := by first | (rw [jL]; with_reducible exact H) | (have H2_ := (Option.bind_some _ _).symm.trans H; rw [jL]; with_reducible exact H2_) | (have H2_ := (Option.bind_some _ _).symm.trans H; with_reducible exact H2_) | with_reducible exact H | (rw [jL]; exact H) | exact H
         have Ny447 := Aside0.mk jL
         clear jL
         have H' := Aside0.mk H
         clear H
         have g3 : 0 ≤ (aq : Int) := of_decide_eq_true (Z12)
         have g4 : aq < (ay.length : Int) := of_decide_eq_true (Z12)
         obtain ⟨rZ, e445, gx, gy, gz⟩ := at_T33 (Kd.R_reads' ar.out).2.2 aq g3 g4
         cases e445
         replace g3 := eq_true g3
         replace g4 := eq_true g4
         have yr : 0 ≤ (aq : Int) := of_decide_eq_true (Z12)
         have yt : (aq : Int) < ((ay.length : Int) : Int) := of_decide_eq_true (Z12)
         obtain ⟨go25, co25, wj, wk, gl25, cl25, HG25⟩ := Kd.R_form ar.out (by omega)
         (first | cases wj | (injection wj with ea_ en_ ec_; (first | subst ea_ | (injection ea_ with ea_; subst ea_)); subst ec_; clear en_))
         have GB25 := Aside0.mk wk
         have GG25 := Aside0.mk HG25
         clear wk gl25 HG25
         (first | simp only [add_plain] at gx | skip)
         (first | simp only [add_plain] at gy | skip)
         (first | simp only [add_plain] at gz | skip)
         obtain ⟨ce25, hcl25, hM25, hcc25, hfr25⟩ := Kd.R_elem ar.out z33 (aq : Int) yr yt
         obtain rfl := k33_openM hM25
         have hx25_0 : wr.cell? ⟨go25, (aq : Int).toNat * 3, none⟩ = some (.int .i64 ((rd_T33 ay aq).f0)) := hcc25 0 _ rfl
         have hx25_1 : wr.cell? ⟨go25, (aq : Int).toNat * 3 + 1, none⟩ = some (.int .i64 ((rd_T33 ay aq).f1)) := hcc25 1 _ rfl
         have hx25_2 : wr.cell? ⟨go25, (aq : Int).toNat * 3 + 2, none⟩ = some (.int .i64 ((rd_T33 ay aq).f2)) := hcc25 2 _ rfl
         have hf25_0 : wr.frozen? ⟨go25, (aq : Int).toNat * 3, none⟩ = false := hfr25 0
         have hf25_1 : wr.frozen? ⟨go25, (aq : Int).toNat * 3 + 1, none⟩ = false := hfr25 1
         have hf25_2 : wr.frozen? ⟨go25, (aq : Int).toNat * 3 + 2, none⟩ = false := hfr25 2
         clear hcl25 hcc25 hfr25 hM25
         replace yr := eq_true yr
         replace yt := eq_true yt
         have HX26 := Aside0.mk (show Kd.R k33 33 wr w.heap.size (fun _ => True) (.slice (some ⟨go25, 0, none⟩) ay.length g2) ay from (Z2 ar))
         obtain ⟨ce26, hcl26, hM26, hcc26, hfr26⟩ := Kd.R_elem HX26.out z33 (aq : Int) (of_decide_eq_true (Z12)) (Z81)
         obtain rfl := k33_openM hM26
         have HP26 := Kd.R_seg HX26.out (aq : Int) (of_decide_eq_true (Z12)) (Z81) (seg := [.int .i64 a1]) (j := 2) hcl26 hcc26 (show 3 ≤ 3 from by decide) (x' := (⟨(rd_T33 ay aq).f0, (rd_T33 ay aq).f1, a1⟩ : S33)) (k33_mkM _ _ _ (⟨(rd_T33 ay aq).f0, (rd_T33 ay aq).f1, a1⟩ : S33) ) (fun _ hk => hk)
         have hx26_2 := hcc26 2 _ rfl
         (try simp only [show (k33).sz = 3 from rfl, Nat.mul_one, Nat.add_zero] at hx26_2)
         have hf26_2 := hfr26 2
         (try simp only [show (k33).sz = 3 from rfl, Nat.mul_one, Nat.add_zero] at hf26_2)
         clear hcl26 hcc26 hfr26 hM26
         go_wp2_with (first | ((with_reducible refine gate_store (t := 3) (p := 50) rfl ?_); refine store_event (t := 3) (p := 50) (v := ?vo_w27) (w1 := (wr.setCell ⟨go25, (aq : Int).toNat * 3 + 2, none⟩ (.int .i64 a1))) ?hg ?ho ?hn ?hr ?_; (case ho => rfl); (case hg => rfl); (case hn => rfl); (case hr => exact Z34); intro qY hw; have hg : wr.grownBy qY (some go25) := (by rw [hw]; exact HP26.2); have hp_ : Kd.R k33 33 qY w.heap.size (fun _ => True) (.slice (some ⟨go25, 0, none⟩) ay.length g2) uf := (by rw [hw, Ny447.out]; exact HP26.1); clear HP26; refine k2_ (hp_) ((by rw [hw]; exact below_set (HB.out) GB25.out : Below w.heap.size w qY)) ?_; clear ar HB; intro ar HB; clear hg hw hp_))
         (try simp only [← hl8_2])
         go_roundg k2
         case measure => have := eS.out; have := HK2.out; omega
         case rel => exact ⟨(uf), (wrap64 (aq + 1)), (Z14), H', ⟨Z74⟩, ⟨Z97⟩, ⟨Z1⟩⟩
        rw [if_neg c24] at H
        have c24b0 : (((rd_T33 ay aq).f2) == a2) = false := beq_eq_false_iff_ne.mpr c24
        have c24b1 : (((rd_T33 ay aq).f2) != a2) = true := bne_iff_ne.mpr c24
        have H' := Aside0.mk H
        clear H
        have g3 : 0 ≤ (aq : Int) := of_decide_eq_true (Z12)
        have g4 : aq < (ay.length : Int) := of_decide_eq_true (Z12)
        obtain ⟨rZ, e445, gx, gy, gz⟩ := at_T33 (Kd.R_reads' ar.out).2.2 aq g3 g4
        cases e445
        replace g3 := eq_true g3
        replace g4 := eq_true g4
        go_wp2
        (try simp only [← hl8_2])
        go_roundg k2
        case measure => have := eS.out; have := HK2.out; omega
        case rel => exact ⟨(ay), (wrap64 (aq + 1)), (Z14), H', ⟨Z74⟩, ⟨Z97⟩, ⟨Z1⟩⟩
       rw [if_neg c19] at H
       exact absurd H (by simp)
      rw [if_neg c18] at H
      exact absurd H (by simp)
     rw [if_neg c17] at H
     have ee : decide (aq < (gh.length : Int)) = false := decide_eq_false c17
     (try (have c17b9_8_2 : decide (aq < (ay.length : Int)) = false := by rw [← hl8_2]; exact ee))
     clear c17
     replace H := Option.bind_eq_some_iff.mp H
     obtain ⟨⟨wl, wm⟩, wn, H⟩ := H
     replace H : (some (wl, wm)) = some (r1, r2) := H
     have A28 := Aside0.mk wn
     clear wn
     simp only [Option.some.injEq, Prod.mk.injEq] at H
     obtain ⟨rfl, rfl⟩ := H
     go_wp2_with (first | ((with_reducible refine gate_callee (f := 43) rfl ?_); refine gl_ 53 Tryd.func43 #[.slice mo ay.length g2] ?_; (with_reducible refine (impl_pinsOf.calls k2 _ _ ay wl wm _ ?_ ?_ A28.out).mono ?_); exact (Z4 ar); exact (Kd.R_reads' ar.out).2.1; rintro e ye ⟨v443, rfl, ho0, hb⟩; refine ⟨_, rfl, ?_⟩; refine k3_ (Yb_ ar) (Kd.R_lower (Kd.R_new' ho0 (Yd_ ar)) (below_size (Z1))) (below_step (Z1) hb) ?_; clear ar HB; intro ar HO444 HB; (try clear hb ho0)))
     go_ret2
     exact ⟨_, Z11, Z26 HO444, Z1⟩

end Go.Proofs.YtdipcpcbclobpaaDoor.PFnPins
