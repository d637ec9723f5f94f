-- written by a program of this session: the kit's print, with outer functions of the session's own (wip/ext)
import Derived.Test.YtdipcpcbclobpaaDoorPFnPinsx0
import Derived.Test.YtdipcpcbclobpaaDoorPFnPinsx2
import Derived.Test.YtdipcpcbclobpaaDoorPFnPinsx3
import Derived.Test.YtdipcpcbclobpaaDoorPFnPinsx4
import Derived.Test.YtdipcpcbclobpaaDoorPFnPinsx7
import Derived.Test.YtdipcpcbclobpaaDoorPFnPinsx8
import Derived.Test.YtdipcpcbclobpaaDoorPFnPinsx10
import Derived.Test.YtdipcpcbclobpaaDoorPFnPinsx11
namespace Go.Proofs.YtdipcpcbclobpaaDoor.PFnPins
open Go.RowKit Go.Proofs.YtdipcpcbclobpaaDoorW.PrintWords Go.Proofs.YtdipcpcbclobpaaDoorW.PrintLast Go.Proofs.YtdipcpcbclobpaaDoorW.PrintMore
attribute [local go_sem] max2_int min2_int max_two min_two max_three min_three max_four min_four   -- for this text's walks alone
set_option linter.unusedVariables false
set_option linter.unusedSimpArgs false
theorem mo12_ {p : Prop} (h : p := by repeat' first | (with_reducible first | apply ih0 | apply ih0 | apply ih1 | apply ih1 | apply impl_ArePins.mono | apply impl_ArePins.mono | apply impl_tunePins.mono | apply impl_tunePins.mono | apply spec_DrawTurnTune.mono | apply spec_DrawTurnTune.mono | apply spec_cyGood.mono | apply spec_cyGood.mono | apply spec_cySorted.mono | apply spec_cySorted.mono | exact LeO.refl _ | exact LeO.none _ | refine LeO.ite ?_ ?_ | refine LeO.bind ?_ (fun _ => ?_)) | exact LeO.none _ | refine LeO.ite ?_ ?_ | refine LeO.bind ?_ (fun _ => ?_)) : p := h

/-! ### spec_SwapTunes: function 18 -/
mutual
def spec_SwapTunes.j0 : Nat → List (S33) → Int → Int → Bool → Option ((List (S33)) × Bool)
 | 0, _, _, _, _ => none
 | k + 1, x0, x1, x2, x23 => if x23 = true then (some (([] : List (S33)), false)) else (spec_SwapTunes.l0 k x1 x2 ([] : List (S33)) x0 (x0.length : Int) 0)
def spec_SwapTunes.l0 : Nat → Int → Int → List (S33) → List (S33) → Int → Int → Option ((List (S33)) × Bool)
 | 0, _, _, _, _, _, _ => none
 | k + 1, x1, x2, x8, x24, x25, x26 => if x26 < x25 then (if 0 ≤ x26 then (if x26 < (x24.length : Int) then (if ((rd_T33 x24 x26).f2) = x1 then (if x8.length < 5864062014805 then (spec_SwapTunes.l0 k x1 x2 (x8 ++ [(⟨(rd_T33 x24 x26).f0, (rd_T33 x24 x26).f1, x2⟩ : S33)]) x24 x25 (wrap64 (x26 + 1))) else (none)) else (if ((rd_T33 x24 x26).f2) = x2 then (if x8.length < 5864062014805 then (spec_SwapTunes.l0 k x1 x2 (x8 ++ [(⟨(rd_T33 x24 x26).f0, (rd_T33 x24 x26).f1, x1⟩ : S33)]) x24 x25 (wrap64 (x26 + 1))) else (none)) else (if x8.length < 5864062014805 then (spec_SwapTunes.l0 k x1 x2 (x8 ++ [(⟨(rd_T33 x24 x26).f0, (rd_T33 x24 x26).f1, (rd_T33 x24 x26).f2⟩ : S33)]) x24 x25 (wrap64 (x26 + 1))) else (none)))) else (none)) else (none)) else ((spec_cySorted.f k x8).bind fun r0 => (some (r0.1, r0.2)))
end
def spec_SwapTunes.f (k : Nat) (l0 : List (S33)) (a1 : Int) (a2 : Int) : Option ((List (S33)) × Bool) := (spec_cyGood.f k l0).bind fun ph => (if ph = true then ((spec_cyShift.f a1).bind fun pi => (if pi = true then ((spec_cyShift.f a2).bind fun n1 => (spec_SwapTunes.j0 k l0 a1 a2 (!n1))) else (spec_SwapTunes.j0 k l0 a1 a2 true))) else (spec_SwapTunes.j0 k l0 a1 a2 true))
theorem spec_SwapTunes.mono_l : ∀ k, (∀ y0 y1 y2 y3, LeO (spec_SwapTunes.j0 k y0 y1 y2 y3) (spec_SwapTunes.j0 (k + 1) y0 y1 y2 y3)) ∧ (∀ y0 y1 y2 y3 y4 y5, LeO (spec_SwapTunes.l0 k y0 y1 y2 y3 y4 y5) (spec_SwapTunes.l0 (k + 1) y0 y1 y2 y3 y4 y5))
 | 0 => ⟨fun _ _ _ _ r h => by simp [spec_SwapTunes.j0] at h, fun _ _ _ _ _ _ r h => by simp [spec_SwapTunes.l0] at h⟩
 | k + 1 => by
  obtain ⟨ih0, ih1⟩ := spec_SwapTunes.mono_l k
  refine ⟨?_, ?_⟩
  ·intro y0 y1 y2 y3
   unfold spec_SwapTunes.j0
   exact mo12_
  intro y0 y1 y2 y3 y4 y5
  unfold spec_SwapTunes.l0
  exact mo12_
theorem spec_SwapTunes.mono : ∀ a0 a1 a2 k, LeO (spec_SwapTunes.f k a0 a1 a2) (spec_SwapTunes.f (k + 1) a0 a1 a2) := by
 intro a0 a1 a2 k
 obtain ⟨ih0, ih1⟩ := spec_SwapTunes.mono_l k
 unfold spec_SwapTunes.f
 exact mo12_
set_option maxHeartbeats 8000000 in
set_option maxRecDepth 100000 in
theorem spec_SwapTunes.calls (k : Nat) (A0 : Option Addr) (c0 : Nat) (l0 : List (S33)) (a1 : Int) (a2 : Int) (r1 : List (S33)) (r2 : Bool) (w : World) (hr0 : Kd.C k33 w A0 l0.length l0) (hc0 : l0.length ≤ c0) (h : spec_SwapTunes.f k l0 a1 a2 = some (r1, r2)) :
  Calls Tryd.prog 18 #[.slice A0 l0.length c0, .int .i64 a1, .int .i64 a2] w fun e w' => ∃ v0_ : Value, e = .returned (.tuple #[v0_, .bool r2]) ∧ Kd.R k33 33 w' w.heap.size (fun _ => True) v0_ r1 ∧ Below w.heap.size w w' := by
 have hu33 := Tryd.underlying33
 have HR0 := Aside0.mk hr0
 have HC0 := Aside0.mk hc0
 clear hr0 hc0
 have HB := Aside0.mk (Below.refl w.heap.size w)
 have H : ((spec_cyGood.f k l0).bind fun ph => (if ph = true then ((spec_cyShift.f a1).bind fun pi => (if pi = true then ((spec_cyShift.f a2).bind fun n1 => (spec_SwapTunes.j0 k l0 a1 a2 (!n1))) else (spec_SwapTunes.j0 k l0 a1 a2 true))) else (spec_SwapTunes.j0 k l0 a1 a2 true))) = some (r1, r2) := h
 clear h
 have HC4 := Aside0.mk H
 clear H
 go_enter Tryd.func18, Tryd.ntmps18
 go_upto_region 1 with (fail)
 go_cut [23] (fun t9 wc => ∃ (kq : Nat) (b8 : Bool), t9 = .bool b8 ∧ Aside0 (spec_SwapTunes.j0 kq l0 a1 a2 b8 = some (r1, r2)) ∧ Aside0 (kq ≤ k) ∧ Aside0 (Below w.heap.size w wc))
 case first =>
  have H := HC4.out
  clear HC4
  replace H := Option.bind_eq_some_iff.mp H
  obtain ⟨ph, dG, H⟩ := H
  (try dsimp only at H)
  have A5 := Aside0.mk dG
  clear dG
  by_cases c6 : ph = true
  ·subst c6
   rw [if_pos rfl] at H
   replace H := Option.bind_eq_some_iff.mp H
   obtain ⟨pi, ed, H⟩ := H
   (try dsimp only at H)
   have A7 := Aside0.mk ed
   clear ed
   by_cases c8 : pi = true
   ·subst c8
    rw [if_pos rfl] at H
    replace H := Option.bind_eq_some_iff.mp H
    obtain ⟨n1, jG, H⟩ := H
    (try dsimp only at H)
    have A9 := Aside0.mk jG
    clear jG
    have H' := Aside0.mk H
    clear H
    go_wp2_with (first | ((with_reducible refine gate_callee (f := 33) rfl ?_); refine gl_ 12 Tryd.func33 #[.slice A0 l0.length c0] ?_; (with_reducible refine (spec_cyGood.calls k _ _ l0 true _ ?_ ?_ A5.out).mono ?_); exact (Z16 HR0); exact HC0.out; rintro e jE ⟨rfl, hb⟩; refine ⟨_, rfl, ?_⟩; refine k1_ (below_step (Z1) hb) ?_; clear HB; intro HB; (try clear hb)) | (go_at_call 34; (with_reducible refine (spec_cyShift.calls a1 true _ A7.out).mono ?_); rintro e w' ⟨rfl, ⟨nd, rfl⟩⟩) | (go_at_call 34; (with_reducible refine (spec_cyShift.calls a2 n1 _ A9.out).mono ?_); rintro e w' ⟨rfl, ⟨nd, rfl⟩⟩))
    go_meet
    case rel => exact ⟨_, (!n1), (Z14), H', ⟨Z56⟩, ⟨Z1⟩⟩
   replace c8 := Bool.eq_false_iff.mpr c8
   subst c8
   rw [if_neg (show ¬ (false = true) by decide)] at H
   have H' := Aside0.mk H
   clear H
   go_wp2_with (first | ((with_reducible refine gate_callee (f := 33) rfl ?_); refine gl_ 12 Tryd.func33 #[.slice A0 l0.length c0] ?_; (with_reducible refine (spec_cyGood.calls k _ _ l0 true _ ?_ ?_ A5.out).mono ?_); exact (Z16 HR0); exact HC0.out; rintro e eV ⟨rfl, hb⟩; refine ⟨_, rfl, ?_⟩; refine k1_ (below_step (Z1) hb) ?_; clear HB; intro HB; (try clear hb)) | (go_at_call 34; (with_reducible refine (spec_cyShift.calls a1 false _ A7.out).mono ?_); rintro e w' ⟨rfl, ⟨nd, rfl⟩⟩))
   go_meet
   case rel => exact ⟨_, (true), (Z14), H', ⟨Z56⟩, ⟨Z1⟩⟩
  replace c6 := Bool.eq_false_iff.mpr c6
  subst c6
  rw [if_neg (show ¬ (false = true) by decide)] at H
  have H' := Aside0.mk H
  clear H
  go_wp2_with (first | ((with_reducible refine gate_callee (f := 33) rfl ?_); refine gl_ 12 Tryd.func33 #[.slice A0 l0.length c0] ?_; (with_reducible refine (spec_cyGood.calls k _ _ l0 false _ ?_ ?_ A5.out).mono ?_); exact (Z16 HR0); exact HC0.out; rintro e oU ⟨rfl, hb⟩; refine ⟨_, rfl, ?_⟩; refine k1_ (below_step (Z1) hb) ?_; clear HB; intro HB; (try clear hb)))
  go_meet
  case rel => exact ⟨_, (true), (Z14), H', ⟨Z56⟩, ⟨Z1⟩⟩
 case rest =>
  clear HC4
  (try clear c1); (try clear p2); (try clear c3); (try clear c6); (try clear c8)
  obtain ⟨kq, b8, rfl, HA, eS, HB⟩ := hcut
  cases kq with
  | zero => exact absurd HA.out (by simp [spec_SwapTunes.j0])
  | succ gw =>
   have H := HA.out
   clear HA
   simp only [spec_SwapTunes.j0] at H
   by_cases c13 : b8 = true
   ·subst c13
    rw [if_pos rfl] at H
    simp only [Option.some.injEq, Prod.mk.injEq] at H
    obtain ⟨rfl, rfl⟩ := H
    go_wp2
    go_ret2
    exact ⟨_, Z11, Z21, Z1⟩
   replace c13 := Bool.eq_false_iff.mpr c13
   subst c13
   rw [if_neg (show ¬ (false = true) by decide)] at H
   have H' := Aside0.mk H
   clear H
   go_wp2
   go_loopg [8, 26] gw (fun kq v8 yu w' => ∃ (ay : List (S33)) (ah : Int), yu = .int .i64 ah ∧ Aside0 (spec_SwapTunes.l0 kq a1 a2 ay l0 (l0.length : Int) ah = some (r1, r2)) ∧ Aside0 (kq ≤ gw) ∧ Aside0 (Kd.R k33 33 w' w.heap.size (fun _ => True) v8 ay) ∧ Aside0 (Below w.heap.size w w'))
   case atStart => exact ⟨(([] : List (S33))), (0), (Z14), H', ⟨Nat.le_refl _⟩, ⟨Z21⟩, ⟨Z1⟩⟩
   case round =>
    clear H'
    (try clear c13)
    obtain ⟨ay, ah, rfl, HA, HK2, ar, HB⟩ := hrel
    cases gk with
    | zero => exact absurd HA.out (by simp [spec_SwapTunes.l0])
    | succ k2 =>
     have H := HA.out
     clear HA
     simp only [spec_SwapTunes.l0] at H
     by_cases c14 : ah < (l0.length : Int)
     ·rw [if_pos c14] at H
      have fh : decide (ah < (l0.length : Int)) = true := decide_eq_true c14
      clear c14
      by_cases c15 : 0 ≤ ah
      ·rw [if_pos c15] at H
       have pj : decide (0 ≤ ah) = true := decide_eq_true c15
       clear c15
       by_cases c16 : ah < (l0.length : Int)
       ·rw [if_pos c16] at H
        have na : decide (ah < (l0.length : Int)) = true := decide_eq_true c16
        clear c16
        by_cases c17 : ((rd_T33 l0 ah).f2) = a1
        ·rw [if_pos c17] at H
         have ee : (((rd_T33 l0 ah).f2) == a1) = true := beq_iff_eq.mpr c17
         have iL : (((rd_T33 l0 ah).f2) != a1) = false := bne_eq_false_iff_eq.mpr c17
         clear c17
         by_cases c18 : ay.length < 5864062014805
         ·rw [if_pos c18] at H
          have jM := Aside0.mk c18
          clear c18
          obtain ⟨wo, jN⟩ : ∃ y_ : List (S33), y_ = (ay ++ [(⟨(rd_T33 l0 ah).f0, (rd_T33 l0 ah).f1, a2⟩ : S33)]) := ⟨_, rfl⟩
          replace H : (spec_SwapTunes.l0 k2 a1 a2 wo l0 (l0.length : Int) (wrap64 (ah + 1))) = some (r1, r2) := by first | (rw [jN]; with_reducible exact H) | (have H2_ := (Option.bind_some _ _).symm.trans H; rw [jN]; with_reducible exact H2_) | (have H2_ := (Option.bind_some _ _).symm.trans H; with_reducible exact H2_) | with_reducible exact H | (rw [jN]; exact H) | exact H
          have Ny457 := Aside0.mk jN
          clear jN
          have H' := Aside0.mk H
          clear H
          have g5 : 0 ≤ (ah : Int) := of_decide_eq_true (Z12)
          have g6 : ah < (l0.length : Int) := of_decide_eq_true (Z12)
          obtain ⟨r6, e455, b9, ca, cb⟩ := at_T33 HR0.out ah g5 g6
          cases e455
          replace b9 := (HB.out.cell (World.block_lt_of_cell? w _ b9)).trans b9
          replace ca := (HB.out.cell (World.block_lt_of_cell? w _ ca)).trans ca
          replace cb := (HB.out.cell (World.block_lt_of_cell? w _ cb)).trans cb
          replace g5 := eq_true g5
          replace g6 := eq_true g6
          go_wp2_with (first | ((with_reducible refine gate_dst (N := 10) rfl ?_); refine bv_ 10 33 #[.int .i64 0, .int .i64 0, .int .i64 0] ?_; intro aV hg jO hbox hb; refine k5_ (Kd.R_below (Kd.R_elderB (Z2 ar) aV (Nat.le_of_eq hg.symm)) hb) (below_step (Z1) hb) (hbox) ((Z23 : w.heap.size ≤ aV)) ((Z23 : w.heap.size ≤ aV)) ?_; clear ar HB; intro ar HB cG r7 oO; clear hb hbox hg; obtain ⟨gA, gB, gC, gD, gE, gF⟩ := bx3_ (w := jO) cG.out; have hq_gb456 : ((((jO.setCell ⟨aV, 0, none⟩ (.int .i64 ((rd_T33 l0 ah).f0))).setCell ⟨aV, 1, none⟩ (.int .i64 ((rd_T33 l0 ah).f1))).setCell ⟨aV, 2, none⟩ (.int .i64 ((rd_T33 l0 ah).f2))).setCell ⟨aV, 2, none⟩ (.int .i64 a2)).cell? ⟨aV, 2, none⟩ = some (.int .i64 a2) := (blk_cell (blk_put (cs := #[.int .i64 ((rd_T33 l0 ah).f0), .int .i64 ((rd_T33 l0 ah).f1), .int .i64 ((rd_T33 l0 ah).f2)]) (blk_put (cs := #[.int .i64 ((rd_T33 l0 ah).f0), .int .i64 ((rd_T33 l0 ah).f1), .int .i64 0]) (blk_put (cs := #[.int .i64 ((rd_T33 l0 ah).f0), .int .i64 0, .int .i64 0]) (blk_put (cs := #[.int .i64 0, .int .i64 0, .int .i64 0]) cG.out 0 (.int .i64 ((rd_T33 l0 ah).f0)) rfl) 1 (.int .i64 ((rd_T33 l0 ah).f1)) rfl) 2 (.int .i64 ((rd_T33 l0 ah).f2)) rfl) 2 (.int .i64 a2) rfl) 2).trans rfl) | ((with_reducible refine gate_builtin (b := .append) (xs := #[.tmp 42, .tmp 44]) rfl ?_); at_builtin; refine Kd.R_append k33 (w0 := w) w.heap.size rfl (.tmp 42) (.tmp 44) 24 33 (.agg #[(.int .i64 0), (.int .i64 0), (.int .i64 0)]) 24 rfl Tryd.underlying24 info33 rfl (by decide) (by omega) u8 ay (⟨(rd_T33 l0 ah).f0, (rd_T33 l0 ah).f1, a2⟩ : S33) [.int .i64 ((rd_T33 l0 ah).f0), .int .i64 ((rd_T33 l0 ah).f1), .int .i64 a2] (fun k_ => k_ ≠ aV) (fun _ => False) rfl (Z34) ?aP (fun _ hk => hk.elim) ?aF ?aO ?aB ?aS ?aL ?_; (case aP => exact k33_mkM _ _ _ (⟨(rd_T33 l0 ah).f0, (rd_T33 l0 ah).f1, a2⟩ : S33)); (case aB => exact Z46); (case aF => exact (fun k_ hk => Kd.freshB (g := aV) (o := .cells #[.int .i64 ((rd_T33 l0 ah).f0), .int .i64 ((rd_T33 l0 ah).f1), .int .i64 a2] 33 (0, 0)) (Z24) k_ hk)); (case aO => exact (by (with_reducible repeat (first | apply Kd.R_alloc | apply Kd.R_drewN | apply Kd.R_drew)); exact Kd.R_mono (Kd.R_far (p := ⟨aV, 2, none⟩) (Kd.R_far (p := ⟨aV, 2, none⟩) (Kd.R_far (p := ⟨aV, 1, none⟩) (Kd.R_far (p := ⟨aV, 0, none⟩) (Kd.R_mono ar.out (fun k_ hk => (⟨hk, hk.2⟩ : _ ∧ k_ ≠ aV))) (fun _ hk => hk.2) (.int .i64 ((rd_T33 l0 ah).f0))) (fun _ hk => hk.2) (.int .i64 ((rd_T33 l0 ah).f1))) (fun _ hk => hk.2) (.int .i64 ((rd_T33 l0 ah).f2))) (fun _ hk => hk.2) (.int .i64 a2)) (fun _ hk => hk.1.2))); (case aS => exact (below_size (Z46))); (case aL => exact Z82 jM); intro v458 ug ho hb hg hat; rw [← Ny457.out] at ho; refine k3_ (blk_grown (g := aV) (o := .cells #[.int .i64 ((rd_T33 l0 ah).f0), .int .i64 ((rd_T33 l0 ah).f1), .int .i64 a2] 33 (0, 0)) (Z24) hg (Kd.R_away ar.out (fun _ hk => hk.2))) (hb) (ho) ?_; clear cG HB ar; intro cG HB HO459; clear ho hb hg hat))
          go_roundg k2
          case measure => have := eS.out; have := HK2.out; omega
          case rel => exact ⟨(wo), (wrap64 (ah + 1)), (Z14), H', ⟨Z74⟩, ⟨Z26 HO459⟩, ⟨Z46⟩⟩
         rw [if_neg c18] at H
         exact absurd H (by simp)
        rw [if_neg c17] at H
        have ee : (((rd_T33 l0 ah).f2) == a1) = false := beq_eq_false_iff_ne.mpr c17
        have iL : (((rd_T33 l0 ah).f2) != a1) = true := bne_iff_ne.mpr c17
        by_cases c22 : ((rd_T33 l0 ah).f2) = a2
        ·rw [if_pos c22] at H
         have pb : (((rd_T33 l0 ah).f2) == a2) = true := beq_iff_eq.mpr c22
         have pc : (((rd_T33 l0 ah).f2) != a2) = false := bne_eq_false_iff_eq.mpr c22
         clear c22
         by_cases c23 : ay.length < 5864062014805
         ·rw [if_pos c23] at H
          have pd := Aside0.mk c23
          clear c23
          obtain ⟨wq, jP⟩ : ∃ y_ : List (S33), y_ = (ay ++ [(⟨(rd_T33 l0 ah).f0, (rd_T33 l0 ah).f1, a1⟩ : S33)]) := ⟨_, rfl⟩
          replace H : (spec_SwapTunes.l0 k2 a1 a2 wq l0 (l0.length : Int) (wrap64 (ah + 1))) = some (r1, r2) := by first | (rw [jP]; with_reducible exact H) | (have H2_ := (Option.bind_some _ _).symm.trans H; rw [jP]; with_reducible exact H2_) | (have H2_ := (Option.bind_some _ _).symm.trans H; with_reducible exact H2_) | with_reducible exact H | (rw [jP]; exact H) | exact H
          have Ny460 := Aside0.mk jP
          clear jP
          have H' := Aside0.mk H
          clear H
          have g5 : 0 ≤ (ah : Int) := of_decide_eq_true (Z12)
          have g6 : ah < (l0.length : Int) := of_decide_eq_true (Z12)
          obtain ⟨r6, e455, b9, ca, cb⟩ := at_T33 HR0.out ah g5 g6
          cases e455
          replace b9 := (HB.out.cell (World.block_lt_of_cell? w _ b9)).trans b9
          replace ca := (HB.out.cell (World.block_lt_of_cell? w _ ca)).trans ca
          replace cb := (HB.out.cell (World.block_lt_of_cell? w _ cb)).trans cb
          replace g5 := eq_true g5
          replace g6 := eq_true g6
          go_wp2_with (first | ((with_reducible refine gate_dst (N := 10) rfl ?_); refine bv_ 10 33 #[.int .i64 0, .int .i64 0, .int .i64 0] ?_; intro aV hg nZ hbox hb; refine k5_ (Kd.R_below (Kd.R_elderB (Z2 ar) aV (Nat.le_of_eq hg.symm)) hb) (below_step (Z1) hb) (hbox) ((Z23 : w.heap.size ≤ aV)) ((Z23 : w.heap.size ≤ aV)) ?_; clear ar HB; intro ar HB cG r7 oO; clear hb hbox hg; obtain ⟨m3, m4, m5, m6, m7, m8⟩ := bx3_ (w := nZ) cG.out; have hq_gb456 : ((((nZ.setCell ⟨aV, 0, none⟩ (.int .i64 ((rd_T33 l0 ah).f0))).setCell ⟨aV, 1, none⟩ (.int .i64 ((rd_T33 l0 ah).f1))).setCell ⟨aV, 2, none⟩ (.int .i64 ((rd_T33 l0 ah).f2))).setCell ⟨aV, 2, none⟩ (.int .i64 a1)).cell? ⟨aV, 2, none⟩ = some (.int .i64 a1) := (blk_cell (blk_put (cs := #[.int .i64 ((rd_T33 l0 ah).f0), .int .i64 ((rd_T33 l0 ah).f1), .int .i64 ((rd_T33 l0 ah).f2)]) (blk_put (cs := #[.int .i64 ((rd_T33 l0 ah).f0), .int .i64 ((rd_T33 l0 ah).f1), .int .i64 0]) (blk_put (cs := #[.int .i64 ((rd_T33 l0 ah).f0), .int .i64 0, .int .i64 0]) (blk_put (cs := #[.int .i64 0, .int .i64 0, .int .i64 0]) cG.out 0 (.int .i64 ((rd_T33 l0 ah).f0)) rfl) 1 (.int .i64 ((rd_T33 l0 ah).f1)) rfl) 2 (.int .i64 ((rd_T33 l0 ah).f2)) rfl) 2 (.int .i64 a1) rfl) 2).trans rfl) | ((with_reducible refine gate_builtin (b := .append) (xs := #[.tmp 42, .tmp 44]) rfl ?_); at_builtin; refine Kd.R_append k33 (w0 := w) w.heap.size rfl (.tmp 42) (.tmp 44) 24 33 (.agg #[(.int .i64 0), (.int .i64 0), (.int .i64 0)]) 24 rfl Tryd.underlying24 info33 rfl (by decide) (by omega) u8 ay (⟨(rd_T33 l0 ah).f0, (rd_T33 l0 ah).f1, a1⟩ : S33) [.int .i64 ((rd_T33 l0 ah).f0), .int .i64 ((rd_T33 l0 ah).f1), .int .i64 a1] (fun k_ => k_ ≠ aV) (fun _ => False) rfl (Z34) ?aP (fun _ hk => hk.elim) ?aF ?aO ?aB ?aS ?aL ?_; (case aP => exact k33_mkM _ _ _ (⟨(rd_T33 l0 ah).f0, (rd_T33 l0 ah).f1, a1⟩ : S33)); (case aB => exact Z46); (case aF => exact (fun k_ hk => Kd.freshB (g := aV) (o := .cells #[.int .i64 ((rd_T33 l0 ah).f0), .int .i64 ((rd_T33 l0 ah).f1), .int .i64 a1] 33 (0, 0)) (Z24) k_ hk)); (case aO => exact (by (with_reducible repeat (first | apply Kd.R_alloc | apply Kd.R_drewN | apply Kd.R_drew)); exact Kd.R_mono (Kd.R_far (p := ⟨aV, 2, none⟩) (Kd.R_far (p := ⟨aV, 2, none⟩) (Kd.R_far (p := ⟨aV, 1, none⟩) (Kd.R_far (p := ⟨aV, 0, none⟩) (Kd.R_mono ar.out (fun k_ hk => (⟨hk, hk.2⟩ : _ ∧ k_ ≠ aV))) (fun _ hk => hk.2) (.int .i64 ((rd_T33 l0 ah).f0))) (fun _ hk => hk.2) (.int .i64 ((rd_T33 l0 ah).f1))) (fun _ hk => hk.2) (.int .i64 ((rd_T33 l0 ah).f2))) (fun _ hk => hk.2) (.int .i64 a1)) (fun _ hk => hk.1.2))); (case aS => exact (below_size (Z46))); (case aL => exact Z82 pd); intro v461 wg ho hb hg hat; rw [← Ny460.out] at ho; refine k3_ (blk_grown (g := aV) (o := .cells #[.int .i64 ((rd_T33 l0 ah).f0), .int .i64 ((rd_T33 l0 ah).f1), .int .i64 a1] 33 (0, 0)) (Z24) hg (Kd.R_away ar.out (fun _ hk => hk.2))) (hb) (ho) ?_; clear cG HB ar; intro cG HB HO462; clear ho hb hg hat))
          go_roundg k2
          case measure => have := eS.out; have := HK2.out; omega
          case rel => exact ⟨(wq), (wrap64 (ah + 1)), (Z14), H', ⟨Z74⟩, ⟨Z26 HO462⟩, ⟨Z46⟩⟩
         rw [if_neg c23] at H
         exact absurd H (by simp)
        rw [if_neg c22] at H
        have pb : (((rd_T33 l0 ah).f2) == a2) = false := beq_eq_false_iff_ne.mpr c22
        have pc : (((rd_T33 l0 ah).f2) != a2) = true := bne_iff_ne.mpr c22
        by_cases c27 : ay.length < 5864062014805
        ·rw [if_pos c27] at H
         have LMc27 := Aside0.mk c27
         clear c27
         obtain ⟨ws, jQ⟩ : ∃ y_ : List (S33), y_ = (ay ++ [(⟨(rd_T33 l0 ah).f0, (rd_T33 l0 ah).f1, (rd_T33 l0 ah).f2⟩ : S33)]) := ⟨_, rfl⟩
         replace H : (spec_SwapTunes.l0 k2 a1 a2 ws l0 (l0.length : Int) (wrap64 (ah + 1))) = some (r1, r2) := by first | (rw [jQ]; with_reducible exact H) | (have H2_ := (Option.bind_some _ _).symm.trans H; rw [jQ]; with_reducible exact H2_) | (have H2_ := (Option.bind_some _ _).symm.trans H; with_reducible exact H2_) | with_reducible exact H | (rw [jQ]; exact H) | exact H
         have Ny463 := Aside0.mk jQ
         clear jQ
         have H' := Aside0.mk H
         clear H
         have g5 : 0 ≤ (ah : Int) := of_decide_eq_true (Z12)
         have g6 : ah < (l0.length : Int) := of_decide_eq_true (Z12)
         obtain ⟨r6, e455, b9, ca, cb⟩ := at_T33 HR0.out ah g5 g6
         cases e455
         replace b9 := (HB.out.cell (World.block_lt_of_cell? w _ b9)).trans b9
         replace ca := (HB.out.cell (World.block_lt_of_cell? w _ ca)).trans ca
         replace cb := (HB.out.cell (World.block_lt_of_cell? w _ cb)).trans cb
         replace g5 := eq_true g5
         replace g6 := eq_true g6
         go_wp2_with (first | ((with_reducible refine gate_dst (N := 10) rfl ?_); refine bv_ 10 33 #[.int .i64 0, .int .i64 0, .int .i64 0] ?_; intro aV hg q0 hbox hb; refine k5_ (Kd.R_below (Kd.R_elderB (Z2 ar) aV (Nat.le_of_eq hg.symm)) hb) (below_step (Z1) hb) (hbox) ((Z23 : w.heap.size ≤ aV)) ((Z23 : w.heap.size ≤ aV)) ?_; clear ar HB; intro ar HB cG r7 oO; clear hb hbox hg; obtain ⟨hcz29_0, hcz29_1, hcz29_2, hfz29_0, hfz29_1, hfz29_2⟩ := bx3_ (w := q0) cG.out) | ((with_reducible refine gate_builtin (b := .append) (xs := #[.tmp 42, .tmp 44]) rfl ?_); at_builtin; refine Kd.R_append k33 (w0 := w) w.heap.size rfl (.tmp 42) (.tmp 44) 24 33 (.agg #[(.int .i64 0), (.int .i64 0), (.int .i64 0)]) 24 rfl Tryd.underlying24 info33 rfl (by decide) (by omega) u8 ay (⟨(rd_T33 l0 ah).f0, (rd_T33 l0 ah).f1, (rd_T33 l0 ah).f2⟩ : S33) [.int .i64 ((rd_T33 l0 ah).f0), .int .i64 ((rd_T33 l0 ah).f1), .int .i64 ((rd_T33 l0 ah).f2)] (fun k_ => k_ ≠ aV) (fun _ => False) rfl (Z34) ?aP (fun _ hk => hk.elim) ?aF ?aO ?aB ?aS ?aL ?_; (case aP => exact k33_mkM _ _ _ (⟨(rd_T33 l0 ah).f0, (rd_T33 l0 ah).f1, (rd_T33 l0 ah).f2⟩ : S33)); (case aB => exact Z46); (case aF => exact (fun k_ hk => Kd.freshB (g := aV) (o := .cells #[.int .i64 ((rd_T33 l0 ah).f0), .int .i64 ((rd_T33 l0 ah).f1), .int .i64 ((rd_T33 l0 ah).f2)] 33 (0, 0)) (Z42 cG) k_ hk)); (case aO => exact (by (with_reducible repeat (first | apply Kd.R_alloc | apply Kd.R_drewN | apply Kd.R_drew)); exact Kd.R_mono (Kd.R_far (p := ⟨aV, 2, none⟩) (Kd.R_far (p := ⟨aV, 1, none⟩) (Kd.R_far (p := ⟨aV, 0, none⟩) (Kd.R_mono ar.out (fun k_ hk => (⟨hk, hk.2⟩ : _ ∧ k_ ≠ aV))) (fun _ hk => hk.2) (.int .i64 ((rd_T33 l0 ah).f0))) (fun _ hk => hk.2) (.int .i64 ((rd_T33 l0 ah).f1))) (fun _ hk => hk.2) (.int .i64 ((rd_T33 l0 ah).f2))) (fun _ hk => hk.1.2))); (case aS => exact (below_size (Z46))); (case aL => exact Z82 LMc27); intro v464 jB ho hb hg hat; rw [← Ny463.out] at ho; refine k3_ (blk_grown (g := aV) (o := .cells #[.int .i64 ((rd_T33 l0 ah).f0), .int .i64 ((rd_T33 l0 ah).f1), .int .i64 ((rd_T33 l0 ah).f2)] 33 (0, 0)) (Z42 cG) hg (Kd.R_away ar.out (fun _ hk => hk.2))) (hb) (ho) ?_; clear cG HB ar; intro cG HB HO465; clear ho hb hg hat))
         go_roundg k2
         case measure => have := eS.out; have := HK2.out; omega
         case rel => exact ⟨(ws), (wrap64 (ah + 1)), (Z14), H', ⟨Z74⟩, ⟨Z26 HO465⟩, ⟨Z46⟩⟩
        rw [if_neg c27] at H
        exact absurd H (by simp)
       rw [if_neg c16] at H
       exact absurd H (by simp)
      rw [if_neg c15] at H
      exact absurd H (by simp)
     rw [if_neg c14] at H
     have fh : decide (ah < (l0.length : Int)) = false := decide_eq_false c14
     clear c14
     replace H := Option.bind_eq_some_iff.mp H
     obtain ⟨⟨wt, wv⟩, ww, H⟩ := H
     replace H : (some (wt, wv)) = some (r1, r2) := H
     have A31 := Aside0.mk ww
     clear ww
     simp only [Option.some.injEq, Prod.mk.injEq] at H
     obtain ⟨rfl, rfl⟩ := H
     obtain ⟨Ao32, co32, eo32⟩ := Kd.R_slice ar.out
     subst eo32
     go_wp2_with (first | ((with_reducible refine gate_callee (f := 44) rfl ?_); refine gl_ 48 Tryd.func44 #[.slice Ao32 ay.length co32] ?_; (with_reducible refine (spec_cySorted.calls k2 _ _ ay wt wv _ ?_ ?_ A31.out).mono ?_); exact (Z4 ar); exact (Kd.R_reads' ar.out).2.1; rintro e oC ⟨v453, rfl, ho0, hb⟩; refine ⟨_, rfl, ?_⟩; refine k3_ (Yb_ ar) (Kd.R_lower (Kd.R_new' ho0 (Yd_ ar)) (below_size (Z1))) (below_step (Z1) hb) ?_; clear ar HB; intro ar HO454 HB; (try clear hb ho0)))
     go_ret2
     exact ⟨_, Z11, Z26 HO454, Z1⟩

/-! ### spec_DrawNextPlayed: function 19 -/
def spec_DrawNextPlayed.f (k : Nat) (l0 : List Int) : Option ((List (S33)) × Int × Int) := (spec_DrawTurnTune.f k l0).bind fun g7 => (some (g7.1, g7.2.1, g7.2.2))
theorem spec_DrawNextPlayed.mono : ∀ a0 k, LeO (spec_DrawNextPlayed.f k a0) (spec_DrawNextPlayed.f (k + 1) a0) := by
 intro a0 k
 unfold spec_DrawNextPlayed.f
 exact mo12_
set_option maxHeartbeats 8000000 in
set_option maxRecDepth 100000 in
theorem spec_DrawNextPlayed.calls (k : Nat) (A0 : Option Addr) (c0 : Nat) (l0 : List Int) (r1 : List (S33)) (r2 : Int) (r3 : Int) (w : World) (hr0 : Kd.C (Kd.int .u8) w A0 l0.length l0) (hc0 : l0.length ≤ c0) (h : spec_DrawNextPlayed.f k l0 = some (r1, r2, r3)) :
  Calls Tryd.prog 19 #[.slice A0 l0.length c0] w fun e w' => ∃ v0_ : Value, e = .returned (.tuple #[v0_, .int .i64 r2, .int .i64 r3]) ∧ Kd.R k33 33 w' w.heap.size (fun _ => True) v0_ r1 ∧ Below w.heap.size w w' := by
 have HR0 := Aside0.mk hr0
 have HC0 := Aside0.mk hc0
 clear hr0 hc0
 have HB := Aside0.mk (Below.refl w.heap.size w)
 have H : ((spec_DrawTurnTune.f k l0).bind fun g7 => (some (g7.1, g7.2.1, g7.2.2))) = some (r1, r2, r3) := h
 clear h
 replace H := Option.bind_eq_some_iff.mp H
 obtain ⟨⟨t466, t467, t468⟩, cr, H⟩ := H
 (try dsimp only at H)
 have A2 := Aside0.mk cr
 clear cr
 simp only [Option.some.injEq, Prod.mk.injEq] at H
 obtain ⟨rfl, rfl, rfl⟩ := H
 go_enter Tryd.func19, Tryd.ntmps19
 go_wp2_with (first | ((with_reducible refine gate_callee (f := 5) rfl ?_); refine gl_ 6 Tryd.func5 #[.slice A0 l0.length c0] ?_; (with_reducible refine (spec_DrawTurnTune.calls k _ _ l0 t466 t467 t468 _ ?_ ?_ A2.out).mono ?_); exact (Z17 HR0); exact HC0.out; rintro e w3 ⟨v469, rfl, ho0, hb⟩; refine ⟨_, rfl, ?_⟩; refine k2_ (Kd.R_lower ho0 (below_size (Z1))) (below_step (Z1) hb) ?_; clear HB; intro HO470 HB; (try clear hb ho0)))
 go_ret3
 exact ⟨_, Z11, Z2 HO470, Z1⟩

/-! ### impl_NextPlayed: function 20 -/
mutual
def impl_NextPlayed.j0 : Nat → List (S33) → Int → Int → Bool → Option (Int × Bool)
 | 0, _, _, _, _ => none
 | k + 1, x0, x1, x2, x23 => if x23 = true then (some (0, false)) else ((impl_tunePins.f k x0 x1 true).bind fun dj => (impl_NextPlayed.l0 k x2 360 dj (dj.length : Int) 0))
def impl_NextPlayed.l0 : Nat → Int → Int → List (S33) → Int → Int → Option (Int × Bool)
 | 0, _, _, _, _, _ => none
 | k + 1, x2, x8, x26, x27, x28 => if x28 < x27 then (if 0 ≤ x28 then (if x28 < (x26.length : Int) then (impl_NextPlayed.l0 k x2 (mn x8 (Int.tmod (wrap64 ((wrap64 (((rd_T33 x26 x28).f1) - x2)) + 360)) 360)) x26 x27 (wrap64 (x28 + 1))) else (none)) else (none)) else (if x8 = 360 then (some (0, false)) else (some (x8, true)))
end
def impl_NextPlayed.f (k : Nat) (l0 : List (S33)) (a1 : Int) (a2 : Int) : Option (Int × Bool) := (impl_ArePins.f k l0).bind fun pk => (if pk = true then ((impl_isShift.f a1).bind fun pl => (if pl = true then ((impl_isAngle.f a2).bind fun n2 => (impl_NextPlayed.j0 k l0 a1 a2 (!n2))) else (impl_NextPlayed.j0 k l0 a1 a2 true))) else (impl_NextPlayed.j0 k l0 a1 a2 true))
theorem impl_NextPlayed.mono_l : ∀ k, (∀ y0 y1 y2 y3, LeO (impl_NextPlayed.j0 k y0 y1 y2 y3) (impl_NextPlayed.j0 (k + 1) y0 y1 y2 y3)) ∧ (∀ y0 y1 y2 y3 y4, LeO (impl_NextPlayed.l0 k y0 y1 y2 y3 y4) (impl_NextPlayed.l0 (k + 1) y0 y1 y2 y3 y4))
 | 0 => ⟨fun _ _ _ _ r h => by simp [impl_NextPlayed.j0] at h, fun _ _ _ _ _ r h => by simp [impl_NextPlayed.l0] at h⟩
 | k + 1 => by
  obtain ⟨ih0, ih1⟩ := impl_NextPlayed.mono_l k
  refine ⟨?_, ?_⟩
  ·intro y0 y1 y2 y3
   unfold impl_NextPlayed.j0
   exact mo12_
  intro y0 y1 y2 y3 y4
  unfold impl_NextPlayed.l0
  exact mo12_
theorem impl_NextPlayed.mono : ∀ a0 a1 a2 k, LeO (impl_NextPlayed.f k a0 a1 a2) (impl_NextPlayed.f (k + 1) a0 a1 a2) := by
 intro a0 a1 a2 k
 obtain ⟨ih0, ih1⟩ := impl_NextPlayed.mono_l k
 unfold impl_NextPlayed.f
 exact mo12_
set_option maxHeartbeats 8000000 in
set_option maxRecDepth 100000 in
theorem impl_NextPlayed.calls (k : Nat) (A0 : Option Addr) (c0 : Nat) (l0 : List (S33)) (a1 : Int) (a2 : Int) (r1 : Int) (r2 : Bool) (w : World) (hr0 : Kd.C k33 w A0 l0.length l0) (hc0 : l0.length ≤ c0) (h : impl_NextPlayed.f k l0 a1 a2 = some (r1, r2)) :
  Calls Tryd.prog 20 #[.slice A0 l0.length c0, .int .i64 a1, .int .i64 a2] w fun e w' => e = .returned (.tuple #[.int .i64 r1, .bool r2]) ∧ Below w.heap.size w w' := by
 have hu33 := Tryd.underlying33
 have HR0 := Aside0.mk hr0
 have HC0 := Aside0.mk hc0
 clear hr0 hc0
 have HB := Aside0.mk (Below.refl w.heap.size w)
 have H : ((impl_ArePins.f k l0).bind fun pk => (if pk = true then ((impl_isShift.f a1).bind fun pl => (if pl = true then ((impl_isAngle.f a2).bind fun n2 => (impl_NextPlayed.j0 k l0 a1 a2 (!n2))) else (impl_NextPlayed.j0 k l0 a1 a2 true))) else (impl_NextPlayed.j0 k l0 a1 a2 true))) = some (r1, r2) := h
 clear h
 have HC4 := Aside0.mk H
 clear H
 go_enter Tryd.func20, Tryd.ntmps20
 go_upto_region 1 with (fail)
 go_cut [23] (fun t9 wc => ∃ (kq : Nat) (b8 : Bool), t9 = .bool b8 ∧ Aside0 (impl_NextPlayed.j0 kq l0 a1 a2 b8 = some (r1, r2)) ∧ Aside0 (kq ≤ k) ∧ Aside0 (Below w.heap.size w wc))
 case first =>
  have H := HC4.out
  clear HC4
  replace H := Option.bind_eq_some_iff.mp H
  obtain ⟨pk, dG, H⟩ := H
  (try dsimp only at H)
  have A5 := Aside0.mk dG
  clear dG
  by_cases c6 : pk = true
  ·subst c6
   rw [if_pos rfl] at H
   replace H := Option.bind_eq_some_iff.mp H
   obtain ⟨pl, ed, H⟩ := H
   (try dsimp only at H)
   have A7 := Aside0.mk ed
   clear ed
   by_cases c8 : pl = true
   ·subst c8
    rw [if_pos rfl] at H
    replace H := Option.bind_eq_some_iff.mp H
    obtain ⟨n2, jG, H⟩ := H
    (try dsimp only at H)
    have A9 := Aside0.mk jG
    clear jG
    have H' := Aside0.mk H
    clear H
    go_wp2_with (first | ((with_reducible refine gate_callee (f := 13) rfl ?_); refine gl_ 12 Tryd.func13 #[.slice A0 l0.length c0] ?_; (with_reducible refine (impl_ArePins.calls k _ _ l0 true _ ?_ ?_ A5.out).mono ?_); exact (Z16 HR0); exact HC0.out; rintro e jE ⟨rfl, hb⟩; refine ⟨_, rfl, ?_⟩; refine k1_ (below_step (Z1) hb) ?_; clear HB; intro HB; (try clear hb)) | (go_at_call 31; (with_reducible refine (impl_isShift.calls a1 true _ A7.out).mono ?_); rintro e w' ⟨rfl, ⟨nd, rfl⟩⟩) | (go_at_call 41; (with_reducible refine (impl_isAngle.calls a2 n2 _ A9.out).mono ?_); rintro e w' ⟨rfl, ⟨nd, rfl⟩⟩))
    go_meet
    case rel => exact ⟨_, (!n2), (Z14), H', ⟨Z56⟩, ⟨Z1⟩⟩
   replace c8 := Bool.eq_false_iff.mpr c8
   subst c8
   rw [if_neg (show ¬ (false = true) by decide)] at H
   have H' := Aside0.mk H
   clear H
   go_wp2_with (first | ((with_reducible refine gate_callee (f := 13) rfl ?_); refine gl_ 12 Tryd.func13 #[.slice A0 l0.length c0] ?_; (with_reducible refine (impl_ArePins.calls k _ _ l0 true _ ?_ ?_ A5.out).mono ?_); exact (Z16 HR0); exact HC0.out; rintro e eV ⟨rfl, hb⟩; refine ⟨_, rfl, ?_⟩; refine k1_ (below_step (Z1) hb) ?_; clear HB; intro HB; (try clear hb)) | (go_at_call 31; (with_reducible refine (impl_isShift.calls a1 false _ A7.out).mono ?_); rintro e w' ⟨rfl, ⟨nd, rfl⟩⟩))
   go_meet
   case rel => exact ⟨_, (true), (Z14), H', ⟨Z56⟩, ⟨Z1⟩⟩
  replace c6 := Bool.eq_false_iff.mpr c6
  subst c6
  rw [if_neg (show ¬ (false = true) by decide)] at H
  have H' := Aside0.mk H
  clear H
  go_wp2_with (first | ((with_reducible refine gate_callee (f := 13) rfl ?_); refine gl_ 12 Tryd.func13 #[.slice A0 l0.length c0] ?_; (with_reducible refine (impl_ArePins.calls k _ _ l0 false _ ?_ ?_ A5.out).mono ?_); exact (Z16 HR0); exact HC0.out; rintro e oU ⟨rfl, hb⟩; refine ⟨_, rfl, ?_⟩; refine k1_ (below_step (Z1) hb) ?_; clear HB; intro HB; (try clear hb)))
  go_meet
  case rel => exact ⟨_, (true), (Z14), H', ⟨Z56⟩, ⟨Z1⟩⟩
 case rest =>
  clear HC4
  (try clear c1); (try clear c2); (try clear p2); (try clear c6); (try clear c8)
  obtain ⟨kq, b8, rfl, HA, eS, HB⟩ := hcut
  cases kq with
  | zero => exact absurd HA.out (by simp [impl_NextPlayed.j0])
  | succ gw =>
   have H := HA.out
   clear HA
   simp only [impl_NextPlayed.j0] at H
   by_cases c13 : b8 = true
   ·subst c13
    rw [if_pos rfl] at H
    simp only [Option.some.injEq, Prod.mk.injEq] at H
    obtain ⟨rfl, rfl⟩ := H
    go_wp2
    go_ret2
    exact ⟨Z11, Z1⟩
   replace c13 := Bool.eq_false_iff.mpr c13
   subst c13
   rw [if_neg (show ¬ (false = true) by decide)] at H
   replace H := Option.bind_eq_some_iff.mp H
   obtain ⟨dj, fg, H⟩ := H
   (try dsimp only at H)
   have qX := Aside0.mk fg
   clear fg
   have H' := Aside0.mk H
   clear H
   go_wp2_with (first | ((with_reducible refine gate_callee (f := 37) rfl ?_); refine gl_ 26 Tryd.func37 #[.slice A0 l0.length c0, .int .i64 a1, .bool true] ?_; (with_reducible refine (impl_tunePins.calls gw _ _ l0 a1 true dj _ ?_ ?_ qX.out).mono ?_); exact (Z16 HR0); exact HC0.out; rintro e l7 ⟨v475, rfl, ho0, hb⟩; refine ⟨_, rfl, ?_⟩; refine k2_ (Kd.R_lower ho0 (below_size (Z1))) (below_step (Z1) hb) ?_; clear HB; intro r8 HB; (try clear hb ho0); obtain ⟨mo, g2, mq⟩ := Kd.R_slice r8.out; subst mq))
   (try simp only [Act.put, List.setIfInBounds_toArray, List.set_cons_zero, List.set_cons_succ])
   go_loopg [8, 28] gw (fun kq v8 v28 w' => ∃ (ay : Int) (bZ : Int), v8 = .int .i64 ay ∧ v28 = .int .i64 bZ ∧ Aside0 (impl_NextPlayed.l0 kq a2 ay dj (dj.length : Int) bZ = some (r1, r2)) ∧ Aside0 (kq ≤ gw) ∧ Aside0 (Kd.R k33 33 w' w.heap.size (fun _ => True) (.slice mo dj.length g2) dj) ∧ Aside0 (Below w.heap.size w w'))
   case atStart => exact ⟨(360), (0), (Z14), (Z14), H', ⟨Nat.le_refl _⟩, ⟨Z2 r8⟩, ⟨Z1⟩⟩
   case round =>
    clear H'
    (try clear c3); (try clear c13)
    obtain ⟨ay, bZ, rfl, rfl, HA, HK2, jR, HB⟩ := hrel
    cases gk with
    | zero => exact absurd HA.out (by simp [impl_NextPlayed.l0])
    | succ k2 =>
     have H := HA.out
     clear HA
     simp only [impl_NextPlayed.l0] at H
     by_cases c17 : bZ < (dj.length : Int)
     ·rw [if_pos c17] at H
      have ee : decide (bZ < (dj.length : Int)) = true := decide_eq_true c17
      clear c17
      by_cases c18 : 0 ≤ bZ
      ·rw [if_pos c18] at H
       have jJ : decide (0 ≤ bZ) = true := decide_eq_true c18
       clear c18
       by_cases c19 : bZ < (dj.length : Int)
       ·rw [if_pos c19] at H
        have o8 : decide (bZ < (dj.length : Int)) = true := decide_eq_true c19
        clear c19
        obtain ⟨uh, hji20⟩ : ∃ j_ : Int, (mn ay (Int.tmod (wrap64 ((wrap64 (((rd_T33 dj bZ).f1) - a2)) + 360)) 360)) = j_ := ⟨_, rfl⟩
        replace H : (impl_NextPlayed.l0 k2 a2 uh dj (dj.length : Int) (wrap64 (bZ + 1))) = some (r1, r2) := by first | (rw [hji20] at H; exact H) | (simp only [hji20] at H ⊢; exact H)
        have hji20_ : (if (Int.tmod (wrap64 ((wrap64 (((rd_T33 dj bZ).f1) - a2)) + 360)) 360) < ay then (Int.tmod (wrap64 ((wrap64 (((rd_T33 dj bZ).f1) - a2)) + 360)) 360) else ay) = uh := hji20
        have H' := Aside0.mk H
        clear H
        have ui : 0 ≤ (bZ : Int) := of_decide_eq_true (Z12)
        have uj : bZ < (dj.length : Int) := of_decide_eq_true (Z12)
        obtain ⟨ad477, e477, hx477_0, hx477_1, hx477_2⟩ := at_T33 (Kd.R_reads' jR.out).2.2 bZ ui uj
        cases e477
        replace ui := eq_true ui
        replace uj := eq_true uj
        go_wp2_with (first | ((with_reducible refine gate_dst (N := 10) rfl ?_); refine bv_ 10 33 #[.int .i64 0, .int .i64 0, .int .i64 0] ?_; intro g8 hg ug hbox hb; refine k5_ (Kd.R_below (Kd.R_elderB (Z2 jR) g8 (Nat.le_of_eq hg.symm)) hb) (below_step (Z1) hb) (hbox) ((Z23 : w.heap.size ≤ g8)) ((Z23 : w.heap.size ≤ g8)) ?_; clear jR HB; intro jR HB BK478 GW478 GE478; clear hb hbox hg; obtain ⟨hcz22_0, hcz22_1, hcz22_2, hfz22_0, hfz22_1, hfz22_2⟩ := bx3_ (w := ug) BK478.out))
        go_roundg k2
        case measure => have := eS.out; have := HK2.out; omega
        case rel => exact ⟨(uh), (wrap64 (bZ + 1)), (by first | rfl | (simp; done) | (simp only [← hji20] <;> (first | rfl | simp)) | (simp [*]; done)), (Z14), H', ⟨Z74⟩, ⟨by (with_reducible repeat (first | apply Kd.R_alloc | apply Kd.R_drewN | apply Kd.R_drew)); exact Kd.R_mono (Kd.R_far (p := ⟨g8, 2, none⟩) (Kd.R_far (p := ⟨g8, 1, none⟩) (Kd.R_far (p := ⟨g8, 0, none⟩) (Kd.R_mono jR.out (fun k_ hk => (⟨hk, hk.2⟩ : _ ∧ k_ ≠ g8))) (fun _ hk => hk.2) (.int .i64 ((rd_T33 dj bZ).f0))) (fun _ hk => hk.2) (.int .i64 ((rd_T33 dj bZ).f1))) (fun _ hk => hk.2) (.int .i64 ((rd_T33 dj bZ).f2))) (fun _ hk => trivial)⟩, ⟨by repeat (first | (with_reducible first | exact HB.out | apply below_alloc | apply pw_below_drewN | apply below_drew1 | refine below_set ?_ GE478.out) | exact HB.out)⟩⟩
       rw [if_neg c19] at H
       exact absurd H (by simp)
      rw [if_neg c18] at H
      exact absurd H (by simp)
     rw [if_neg c17] at H
     have ee : decide (bZ < (dj.length : Int)) = false := decide_eq_false c17
     clear c17
     by_cases c23 : ay = 360
     ·rw [if_pos c23] at H
      have c23b0 : (ay == 360) = true := beq_iff_eq.mpr c23
      have c23b1 : (ay != 360) = false := bne_eq_false_iff_eq.mpr c23
      clear c23
      simp only [Option.some.injEq, Prod.mk.injEq] at H
      obtain ⟨rfl, rfl⟩ := H
      go_wp2
      go_ret2
      exact ⟨Z11, Z1⟩
     rw [if_neg c23] at H
     have c23b0 : (ay == 360) = false := beq_eq_false_iff_ne.mpr c23
     have c23b1 : (ay != 360) = true := bne_iff_ne.mpr c23
     simp only [Option.some.injEq, Prod.mk.injEq] at H
     obtain ⟨rfl, rfl⟩ := H
     go_wp2
     go_ret2
     exact ⟨Z11, Z1⟩

end Go.Proofs.YtdipcpcbclobpaaDoor.PFnPins
