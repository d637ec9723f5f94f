-- written by a program of this session: the kit's print, with outer functions of the session's own (wip/ext)
import Derived.Test.YtdipcpcbclobpaaDoorPFnPinsx0
import Derived.Test.YtdipcpcbclobpaaDoorPFnPinsx2
import Derived.Test.YtdipcpcbclobpaaDoorPFnPinsx7
import Derived.Test.YtdipcpcbclobpaaDoorPFnPinsx8
import Derived.Test.YtdipcpcbclobpaaDoorPFnPinsx9
import Derived.Test.YtdipcpcbclobpaaDoorPFnPinsx10
import Derived.Test.YtdipcpcbclobpaaDoorPFnPinsx11
import Derived.Test.YtdipcpcbclobpaaDoorPFnPinsx12
import Derived.Test.YtdipcpcbclobpaaDoorPFnPinsx13
import Derived.Test.YtdipcpcbclobpaaDoorPFnPinsx14
import Derived.Test.YtdipcpcbclobpaaDoorPFnPinsx15
import Derived.Test.YtdipcpcbclobpaaDoorPFnPinsx16
namespace Go.Proofs.YtdipcpcbclobpaaDoor.PFnPins
open Go.RowKit Go.Proofs.YtdipcpcbclobpaaDoorW.PrintWords Go.Proofs.YtdipcpcbclobpaaDoorW.PrintLast Go.Proofs.YtdipcpcbclobpaaDoorW.PrintMore
attribute [local go_sem] max2_int min2_int max_two min_two max_three min_three max_four min_four   -- for this text's walks alone
set_option linter.unusedVariables false
set_option linter.unusedSimpArgs false
theorem ex_32 {α : Type} {p : α → α → α → α → α → α → α → α → α → α → α → α → α → α → α → α → α → α → α → α → α → α → α → α → α → α → α → α → α → α → α → α → Prop} (a0 a1 a2 a3 a4 a5 a6 a7 a8 a9 a10 a11 a12 a13 a14 a15 a16 a17 a18 a19 a20 a21 a22 a23 a24 a25 a26 a27 a28 a29 a30 a31 : α) (h : p a0 a1 a2 a3 a4 a5 a6 a7 a8 a9 a10 a11 a12 a13 a14 a15 a16 a17 a18 a19 a20 a21 a22 a23 a24 a25 a26 a27 a28 a29 a30 a31) : ∃ a0 a1 a2 a3 a4 a5 a6 a7 a8 a9 a10 a11 a12 a13 a14 a15 a16 a17 a18 a19 a20 a21 a22 a23 a24 a25 a26 a27 a28 a29 a30 a31, p a0 a1 a2 a3 a4 a5 a6 a7 a8 a9 a10 a11 a12 a13 a14 a15 a16 a17 a18 a19 a20 a21 a22 a23 a24 a25 a26 a27 a28 a29 a30 a31 := ⟨a0, a1, a2, a3, a4, a5, a6, a7, a8, a9, a10, a11, a12, a13, a14, a15, a16, a17, a18, a19, a20, a21, a22, a23, a24, a25, a26, a27, a28, a29, a30, a31, h⟩
theorem ex_8 {α : Type} {p : α → α → α → α → α → α → α → α → Prop} (a0 a1 a2 a3 a4 a5 a6 a7 : α) (h : p a0 a1 a2 a3 a4 a5 a6 a7) : ∃ a0 a1 a2 a3 a4 a5 a6 a7, p a0 a1 a2 a3 a4 a5 a6 a7 := ⟨a0, a1, a2, a3, a4, a5, a6, a7, h⟩
set_option maxHeartbeats 8000000 in
set_option maxRecDepth 100000 in
theorem laws_FnPins.calls (k : Nat) (A0 : Option Addr) (c0 : Nat) (l0 : List Int) (A1 : Option Addr) (c1 : Nat) (l1 : List Int) (r : Bool) (w : World) (hr0 : Kd.C (Kd.int .u8) w A0 l0.length l0) (hc0 : l0.length ≤ c0) (hr1 : Kd.C (Kd.int .u8) w A1 l1.length l1) (hc1 : l1.length ≤ c1) (h : laws_FnPins.f k l0 l1 = some r) (hT : Go.Lib.TabIs Tryd.prog w "internal/strconv.uint64pow10" .u64 Go.Lib.pow10Tab) :
  Calls Tryd.prog 3 #[.slice A0 l0.length c0, .slice A1 l1.length c1] w fun e w' => e = .returned (.bool r) ∧ Below w.heap.size w w' := by
 have hu33 := Tryd.underlying33
 have HT := Aside0.mk hT
 clear hT
 have HR0 := Aside0.mk hr0
 have HC0 := Aside0.mk hc0
 clear hr0 hc0
 have HR1 := Aside0.mk hr1
 have HC1 := Aside0.mk hc1
 clear hr1 hc1
 have HB := Aside0.mk (Below.refl w.heap.size w)
 have H : ((laws_big.f l0 l1).bind fun pF => (if pF = true then (some true) else ((spec_DrawTurnTune.f k l0).bind fun bQ => ((impl_TurnTune.f k bQ.1 bQ.2.1 bQ.2.2).bind fun dK => ((spec_TurnTune.f k bQ.1 bQ.2.1 bQ.2.2).bind fun la => (if (dK.2 != la.2) = true then (laws_FnPins.j0 k l1 bQ.1 bQ.2.1 bQ.2.2 dK.1 dK.2 true) else ((laws_pSamePins.f k dK.1 la.1).bind fun oa => (laws_FnPins.j0 k l1 bQ.1 bQ.2.1 bQ.2.2 dK.1 dK.2 (!oa))))))))) = some r := h
 clear h
 replace H := Option.bind_eq_some_iff.mp H
 obtain ⟨pF, dF, H⟩ := H
 (try dsimp only at H)
 have A3 := Aside0.mk dF
 clear dF
 by_cases c4 : pF = true
 ·subst c4
  rw [if_pos rfl] at H
  obtain rfl := Option.some.inj H
  go_enter Tryd.func3, Tryd.ntmps3
  as_aux_lemma =>
   go_wp2_with (first | ((with_reducible refine gate_callee (f := 4) rfl ?_); refine gl_ 60 Tryd.func4 #[.slice A0 l0.length c0, .slice A1 l1.length c1] ?_; (with_reducible refine (laws_big.calls _ _ l0 _ _ l1 true _ ?_ ?_ ?_ ?_ A3.out).mono ?_); exact (Z17 HR0); exact HC0.out; exact (Z17 HR1); exact HC1.out; rintro e w' ⟨rfl, ⟨nd, rfl⟩⟩; refine ⟨_, rfl, ?_⟩))
   go_ret
   exact ⟨Z11, Z1⟩
 replace c4 := Bool.eq_false_iff.mpr c4
 subst c4
 rw [if_neg (show ¬ (false = true) by decide)] at H
 replace H := Option.bind_eq_some_iff.mp H
 obtain ⟨⟨bY, cz, bS⟩, dG, H⟩ := H
 (try dsimp only at H)
 have A5 := Aside0.mk dG
 clear dG
 replace H := Option.bind_eq_some_iff.mp H
 obtain ⟨⟨cH, hX⟩, gW, H⟩ := H
 (try dsimp only at H)
 have A6 := Aside0.mk gW
 clear gW
 replace H := Option.bind_eq_some_iff.mp H
 obtain ⟨⟨wE, jl⟩, ed, H⟩ := H
 (try dsimp only at H)
 have A7 := Aside0.mk ed
 clear ed
 have HC8 := Aside0.mk H
 clear H
 go_enter Tryd.func3, Tryd.ntmps3
 go_upto_region 6 with (first | ((with_reducible refine gate_callee (f := 4) rfl ?_); refine gl_ 60 Tryd.func4 #[.slice A0 l0.length c0, .slice A1 l1.length c1] ?_; (with_reducible refine (laws_big.calls _ _ l0 _ _ l1 false _ ?_ ?_ ?_ ?_ A3.out).mono ?_); exact (Z17 HR0); exact HC0.out; exact (Z17 HR1); exact HC1.out; rintro e w' ⟨rfl, ⟨nd, rfl⟩⟩; refine ⟨_, rfl, ?_⟩) | ((with_reducible refine gate_callee (f := 5) rfl ?_); refine gl_ 63 Tryd.func5 #[.slice A0 l0.length c0] ?_; (with_reducible refine (spec_DrawTurnTune.calls k _ _ l0 bY cz bS _ ?_ ?_ A5.out).mono ?_); exact (Z17 HR0); exact HC0.out; rintro e w9 ⟨v549, rfl, ho0, hb⟩; refine ⟨_, rfl, ?_⟩; refine k2_ (Kd.R_lower ho0 (below_size (Z1))) (below_step (Z1) hb) ?_; clear HB; intro cV HB; (try clear hb ho0); obtain ⟨gi, gj, mr⟩ := Kd.R_slice cV.out; subst mr) | ((with_reducible refine gate_callee (f := 6) rfl ?_); refine gl_ 71 Tryd.func6 #[.slice gi bY.length gj, .int .i64 cz, .int .i64 bS] ?_; (with_reducible refine (impl_TurnTune.calls k _ _ bY cz bS cH hX _ ?_ ?_ A6.out).mono ?_); exact (Z4 cV); exact (Kd.R_reads' cV.out).2.1; rintro e eV ⟨wF, rfl, ho0, hb⟩; refine ⟨_, rfl, ?_⟩; refine k3_ (Yb_ cV) (Kd.R_lower (Kd.R_new' ho0 (Yd_ cV)) (below_size (Z1))) (below_step (Z1) hb) ?_; clear cV HB; intro cV fk HB; (try clear hb ho0)) | ((with_reducible refine gate_callee (f := 7) rfl ?_); refine gl_ 78 Tryd.func7 #[.slice gi bY.length gj, .int .i64 cz, .int .i64 bS] ?_; (with_reducible refine (spec_TurnTune.calls k _ _ bY cz bS wE jl _ ?_ ?_ A7.out).mono ?_); exact (Z4 cV); exact (Kd.R_reads' cV.out).2.1; rintro e oU ⟨v557, rfl, ho0, hb⟩; refine ⟨_, rfl, ?_⟩; refine k4_ (Yb_ cV) (Yb_ fk) (Kd.R_lower (Kd.R_new' (Kd.R_new' ho0 (Yd_ cV)) (Yd_ fk)) (below_size (Z1))) (below_step (Z1) hb) ?_; clear cV fk HB; intro cV fk pG HB; (try clear hb ho0)))
 (try simp only [Act.put, List.setIfInBounds_toArray, List.set_cons_zero, List.set_cons_succ])
 go_cut [89] (fun v89 wc => ∃ (kq : Nat) (nD : Bool), v89 = .bool nD ∧ Aside0 (laws_FnPins.j0 kq l1 bY cz bS cH hX nD = some r) ∧ Aside0 (kq ≤ k) ∧ Aside0 (Kd.R k33 33 wc w.heap.size (fun k_ => some k_ ≠ (wF : Value).ownBlock) (.slice gi bY.length gj) bY) ∧ Aside0 (Kd.R k33 33 wc w.heap.size (fun k_ => some k_ ≠ ((.slice gi bY.length gj) : Value).ownBlock) wF cH) ∧ Aside0 (Below w.heap.size w wc))
 case first =>
  as_aux_lemma =>
   have H := HC8.out
   clear HC8
   by_cases c13 : (hX != jl) = true
   ·rw [if_pos c13] at H
    have hF : (hX != jl) = true := c13
    (try (have sH : decide (hX = jl) = false := by simpa using c13))
    (try (have sI : (hX == jl) = false := by simpa using c13))
    (try (have c13b3 : ¬ (hX = jl) := by simpa using c13))
    clear c13
    (first | rw [hF] | (simp only [i64_w, i32_w]; rw [hF]) | skip)
    have H' := Aside0.mk H
    clear H
    as_aux_lemma =>
     go_wp2
     (refine Met.intro ?_; go_step; (repeat (first | apply ex_32 | apply ex_8 | apply Exists.intro)); refine ⟨?rel, rfl⟩)
     case rel => exact ⟨_, (true), (Z14), H', ⟨Z56⟩, ⟨Z51 cV⟩, ⟨Z51 fk⟩, ⟨Z1⟩⟩
   rw [if_neg c13] at H
   have hF : (hX != jl) = false := by simpa using c13
   (try (have sH : decide (hX = jl) = true := by simpa using c13))
   (try (have sI : (hX == jl) = true := by simpa using c13))
   clear c13
   (first | rw [hF] | (simp only [i64_w, i32_w]; rw [hF]) | skip)
   replace H := Option.bind_eq_some_iff.mp H
   obtain ⟨oa, fg, H⟩ := H
   (try dsimp only at H)
   have qX := Aside0.mk fg
   clear fg
   have H' := Aside0.mk H
   clear H
   obtain ⟨ul, um, pr⟩ := Kd.R_slice fk.out
   subst pr
   obtain ⟨mo, g2, mq⟩ := Kd.R_slice pG.out
   subst mq
   as_aux_lemma =>
    go_wp2_with (first | (go_at_call 8; (with_reducible refine (laws_pSamePins.calls k _ _ cH _ _ wE oa _ ?_ ?_ ?_ ?_ qX.out).mono ?_); exact (Z4 fk); exact (Kd.R_reads' fk.out).2.1; exact (Z4 pG); exact (Kd.R_reads' pG.out).2.1; rintro e w' ⟨rfl, ⟨nd, rfl⟩⟩))
    (refine Met.intro ?_; go_step; (repeat (first | apply ex_32 | apply ex_8 | apply Exists.intro)); refine ⟨?rel, rfl⟩)
    case rel => exact ⟨_, (!oa), (Z14), H', ⟨Z56⟩, ⟨Z51 cV⟩, ⟨Z51 fk⟩, ⟨Z1⟩⟩
 case rest =>
  as_aux_lemma =>
   clear HC8
   (try clear c1); (try clear p2); (try clear c3); (try clear c4); (try clear c5); (try clear c6); (try clear c7); (try clear c13); (try clear hF); (try clear sH); (try clear sI)
   obtain ⟨kq, nD, rfl, HA, jA, be, ar, HB⟩ := hcut
   cases kq with
   | zero => exact absurd HA.out (by simp [laws_FnPins.j0])
   | succ bU =>
    have H := HA.out
    clear HA
    simp only [laws_FnPins.j0] at H
    by_cases c17 : nD = true
    ·subst c17
     rw [if_pos rfl] at H
     obtain rfl := Option.some.inj H
     as_aux_lemma =>
      go_wp2
      go_ret
      exact ⟨Z11, Z1⟩
    replace c17 := Bool.eq_false_iff.mpr c17
    subst c17
    rw [if_neg (show ¬ (false = true) by decide)] at H
    have HC18 := Aside0.mk H
    clear H
    go_upto_if 90 with (fail)
    go_cut [] (fun wc => ∃ (kq : Nat), Aside0 (laws_FnPins.j3 kq l1 = some r) ∧ Aside0 (kq ≤ bU) ∧ Aside0 (Below w.heap.size w wc))
    case first =>
     as_aux_lemma =>
      have H := HC18.out
      clear HC18
      by_cases c19 : hX = true
      ·subst c19
       rw [if_pos rfl] at H
       replace H := Option.bind_eq_some_iff.mp H
       obtain ⟨⟨gn, wG⟩, pu, H⟩ := H
       (try dsimp only at H)
       have cr := Aside0.mk pu
       clear pu
       replace H := Option.bind_eq_some_iff.mp H
       obtain ⟨⟨jm, wH⟩, pv, H⟩ := H
       (try dsimp only at H)
       have wy := Aside0.mk pv
       clear pv
       replace H := Option.bind_eq_some_iff.mp H
       obtain ⟨⟨bh, wI⟩, wJ, H⟩ := H
       (try dsimp only at H)
       have A22 := Aside0.mk wJ
       clear wJ
       replace H := Option.bind_eq_some_iff.mp H
       obtain ⟨⟨ob, wK⟩, wL, H⟩ := H
       (try dsimp only at H)
       have A23 := Aside0.mk wL
       clear wL
       replace H := Option.bind_eq_some_iff.mp H
       obtain ⟨⟨fU, wM⟩, wN, H⟩ := H
       (try dsimp only at H)
       have A24 := Aside0.mk wN
       clear wN
       replace H := Option.bind_eq_some_iff.mp H
       obtain ⟨⟨uF, wO⟩, wP, H⟩ := H
       (try dsimp only at H)
       have A25 := Aside0.mk wP
       clear wP
       have HC26 := Aside0.mk H
       clear H
       obtain ⟨jn, iC, eo27⟩ := Kd.R_slice ar.out
       subst eo27
       go_upto_region 15 with (first | ((with_reducible refine gate_callee (f := 6) rfl ?_); refine gl_ 97 Tryd.func6 #[.slice jn cH.length iC, .int .i64 cz, .int .i64 (Int.tmod (wrap64 (360 - bS)) 360)] ?_; (with_reducible refine (impl_TurnTune.calls bU _ _ cH cz (Int.tmod (wrap64 (360 - bS)) 360) gn wG _ ?_ ?_ cr.out).mono ?_); exact (Z4 ar); exact (Kd.R_reads' ar.out).2.1; rintro e q0 ⟨v562, rfl, ho0, hb⟩; refine ⟨_, rfl, ?_⟩; refine k4_ (Yb_ be) (Yb_ ar) (Kd.R_lower (Kd.R_new' (Kd.R_new' ho0 (Yd_ be)) (Yd_ ar)) (below_size (Z1))) (below_step (Z1) hb) ?_; clear be ar HB; intro be ar aM HB; (try clear hb ho0)) | ((with_reducible refine gate_callee (f := 9) rfl ?_); refine gl_ 103 Tryd.func9 #[.slice gi bY.length gj, .int .i64 cz] ?_; (with_reducible refine (impl_TuneOf.calls bU _ _ bY cz jm wH _ ?_ ?_ wy.out).mono ?_); exact (Z4 be); exact (Kd.R_reads' be.out).2.1; rintro e ye ⟨v566, rfl, ho0, hb⟩; refine ⟨_, rfl, ?_⟩; refine k5_ (Yb_ be) (Yb_ ar) (Yb_ aM) (Kd.R_lower (Kd.R_new' (Kd.R_new' (Kd.R_new' ho0 (Yd_ be)) (Yd_ ar)) (Yd_ aM)) (below_size (Z1))) (below_step (Z1) hb) ?_; clear be ar aM HB; intro be ar aM aW HB; (try clear hb ho0)) | ((with_reducible refine gate_callee (f := 10) rfl ?_); refine gl_ 109 Tryd.func10 #[.slice gi bY.length gj, .int .i64 cz] ?_; (with_reducible refine (spec_TuneOf.calls bU _ _ bY cz bh wI _ ?_ ?_ A22.out).mono ?_); exact (Z4 be); exact (Kd.R_reads' be.out).2.1; rintro e jB ⟨wQ, rfl, ho0, hb⟩; refine ⟨_, rfl, ?_⟩; refine k6_ (Yb_ be) (Yb_ ar) (Yb_ aM) (Yb_ aW) (Kd.R_lower (Kd.R_new' (Kd.R_new' (Kd.R_new' (Kd.R_new' ho0 (Yd_ be)) (Yd_ ar)) (Yd_ aM)) (Yd_ aW)) (below_size (Z1))) (below_step (Z1) hb) ?_; clear be ar aM aW HB; intro be ar aM aW bb HB; (try clear hb ho0)) | ((with_reducible refine gate_callee (f := 11) rfl ?_); refine gl_ 115 Tryd.func11 #[.slice gi bY.length gj, .int .i64 cz] ?_; (with_reducible refine (impl_WithoutTune.calls bU _ _ bY cz ob wK _ ?_ ?_ A23.out).mono ?_); exact (Z4 be); exact (Kd.R_reads' be.out).2.1; rintro e oE ⟨v574, rfl, ho0, hb⟩; refine ⟨_, rfl, ?_⟩; refine k7_ (Yb_ be) (Yb_ ar) (Yb_ aM) (Yb_ aW) (Yb_ bb) (Kd.R_lower (Kd.R_new' (Kd.R_new' (Kd.R_new' (Kd.R_new' (Kd.R_new' ho0 (Yd_ be)) (Yd_ ar)) (Yd_ aM)) (Yd_ aW)) (Yd_ bb)) (below_size (Z1))) (below_step (Z1) hb) ?_; clear be ar aM aW bb HB; intro be ar aM aW bb bC HB; (try clear hb ho0)) | ((with_reducible refine gate_callee (f := 12) rfl ?_); refine gl_ 121 Tryd.func12 #[.slice gi bY.length gj, .int .i64 cz] ?_; (with_reducible refine (spec_WithoutTune.calls bU _ _ bY cz fU wM _ ?_ ?_ A24.out).mono ?_); exact (Z4 be); exact (Kd.R_reads' be.out).2.1; rintro e pH ⟨v578, rfl, ho0, hb⟩; refine ⟨_, rfl, ?_⟩; refine k8_ (Yb_ be) (Yb_ ar) (Yb_ aM) (Yb_ aW) (Yb_ bb) (Yb_ bC) (Kd.R_lower (Kd.R_new' (Kd.R_new' (Kd.R_new' (Kd.R_new' (Kd.R_new' (Kd.R_new' ho0 (Yd_ be)) (Yd_ ar)) (Yd_ aM)) (Yd_ aW)) (Yd_ bb)) (Yd_ bC)) (below_size (Z1))) (below_step (Z1) hb) ?_; clear be ar aM aW bb bC HB; intro be ar aM aW bb bC bD HB; (try clear hb ho0)) | ((with_reducible refine gate_callee (f := 11) rfl ?_); refine gl_ 127 Tryd.func11 #[.slice jn cH.length iC, .int .i64 cz] ?_; (with_reducible refine (impl_WithoutTune.calls bU _ _ cH cz uF wO _ ?_ ?_ A25.out).mono ?_); exact (Z4 ar); exact (Kd.R_reads' ar.out).2.1; rintro e oC ⟨v582, rfl, ho0, hb⟩; refine ⟨_, rfl, ?_⟩; refine k9_ (Yb_ be) (Yb_ ar) (Yb_ aM) (Yb_ aW) (Yb_ bb) (Yb_ bC) (Yb_ bD) (Kd.R_lower (Kd.R_new' (Kd.R_new' (Kd.R_new' (Kd.R_new' (Kd.R_new' (Kd.R_new' (Kd.R_new' ho0 (Yd_ be)) (Yd_ ar)) (Yd_ aM)) (Yd_ aW)) (Yd_ bb)) (Yd_ bC)) (Yd_ bD)) (below_size (Z1))) (below_step (Z1) hb) ?_; clear be ar aM aW bb bC bD HB; intro be ar aM aW bb bC bD fl HB; (try clear hb ho0)))
       (try simp only [Act.put, List.setIfInBounds_toArray, List.set_cons_zero, List.set_cons_succ])
       go_cut [190] (fun v190 wc => ∃ (kq : Nat) (gM : Bool), v190 = .bool gM ∧ Aside0 (laws_FnPins.j1 kq l1 cz bS cH bh gM = some r) ∧ Aside0 (kq ≤ bU) ∧ Aside0 (Kd.R k33 33 wc w.heap.size (fun k_ => some k_ ≠ (wQ : Value).ownBlock) (.slice jn cH.length iC) cH) ∧ Aside0 (Kd.R k33 33 wc w.heap.size (fun k_ => some k_ ≠ ((.slice jn cH.length iC) : Value).ownBlock) wQ bh) ∧ Aside0 (Below w.heap.size w wc))
       case first =>
        as_aux_lemma =>
         have H := HC26.out
         clear HC26
         by_cases c34 : wG = true
         ·subst c34
          rw [if_pos rfl] at H
          replace H := Option.bind_eq_some_iff.mp H
          obtain ⟨ux, wR, H⟩ := H
          (try dsimp only at H)
          have pI := Aside0.mk wR
          clear wR
          by_cases c36 : ux = true
          ·subst c36
           rw [if_pos rfl] at H
           by_cases c37 : wH = true
           ·subst c37
            rw [if_pos rfl] at H
            by_cases c38 : wI = true
            ·subst c38
             rw [if_pos rfl] at H
             replace H := Option.bind_eq_some_iff.mp H
             obtain ⟨uy, wU, H⟩ := H
             (try dsimp only at H)
             have sJ := Aside0.mk wU
             clear wU
             by_cases c40 : uy = true
             ·subst c40
              rw [if_pos rfl] at H
              by_cases c41 : wK = true
              ·subst c41
               rw [if_pos rfl] at H
               by_cases c42 : wM = true
               ·subst c42
                rw [if_pos rfl] at H
                replace H := Option.bind_eq_some_iff.mp H
                obtain ⟨uz, wV, H⟩ := H
                (try dsimp only at H)
                have wW := Aside0.mk wV
                clear wV
                by_cases c44 : uz = true
                ·subst c44
                 rw [if_pos rfl] at H
                 by_cases c45 : (wrap64 ((bh.length : Int) + (fU.length : Int))) = (bY.length : Int)
                 ·rw [if_pos c45] at H
                  have hY : ((wrap64 ((bh.length : Int) + (fU.length : Int))) == (bY.length : Int)) = true := beq_iff_eq.mpr c45
                  have pJ : ((wrap64 ((bh.length : Int) + (fU.length : Int))) != (bY.length : Int)) = false := bne_eq_false_iff_eq.mpr c45
                  clear c45
                  (first | rw [hY] | (simp only [i64_w, i32_w]; rw [hY]) | skip)
                  by_cases c46 : wO = true
                  ·subst c46
                   rw [if_pos rfl] at H
                   replace H := Option.bind_eq_some_iff.mp H
                   obtain ⟨uA, wX, H⟩ := H
                   (try dsimp only at H)
                   have qT := Aside0.mk wX
                   clear wX
                   by_cases c48 : uA = true
                   ·subst c48
                    rw [if_pos rfl] at H
                    replace H := Option.bind_eq_some_iff.mp H
                    obtain ⟨q8, wY, H⟩ := H
                    (try dsimp only at H)
                    have A49 := Aside0.mk wY
                    clear wY
                    have H' := Aside0.mk H
                    clear H
                    obtain ⟨uG, uH, rc⟩ := Kd.R_slice aM.out
                    subst rc
                    as_aux_lemma =>
                     go_wp2_with (first | (go_at_call 8; (with_reducible refine (laws_pSamePins.calls bU _ _ gn _ _ bY true _ ?_ ?_ ?_ ?_ pI.out).mono ?_); exact (Z4 aM); exact (Kd.R_reads' aM.out).2.1; exact (Z4 be); exact (Kd.R_reads' be.out).2.1; rintro e w' ⟨rfl, ⟨nd, rfl⟩⟩; obtain ⟨wZ, xa, re⟩ := Kd.R_slice aW.out; subst re; obtain ⟨Ao52, co52, eo52⟩ := Kd.R_slice bb.out; subst eo52) | (go_at_call 8; (with_reducible refine (laws_pSamePins.calls bU _ _ jm _ _ bh true _ ?_ ?_ ?_ ?_ sJ.out).mono ?_); exact (Z4 aW); exact (Kd.R_reads' aW.out).2.1; exact (Z4 bb); exact (Kd.R_reads' bb.out).2.1; rintro e w' ⟨rfl, ⟨nd, rfl⟩⟩; obtain ⟨Ao53, co53, eo53⟩ := Kd.R_slice bC.out; subst eo53; obtain ⟨Ao54, co54, eo54⟩ := Kd.R_slice bD.out; subst eo54) | (go_at_call 8; (with_reducible refine (laws_pSamePins.calls bU _ _ ob _ _ fU true _ ?_ ?_ ?_ ?_ wW.out).mono ?_); exact (Z4 bC); exact (Kd.R_reads' bC.out).2.1; exact (Z4 bD); exact (Kd.R_reads' bD.out).2.1; rintro e w' ⟨rfl, ⟨nd, rfl⟩⟩; obtain ⟨hZ, ia, rf⟩ := Kd.R_slice fl.out; subst rf) | (go_at_call 8; (with_reducible refine (laws_pSamePins.calls bU _ _ uF _ _ fU true _ ?_ ?_ ?_ ?_ qT.out).mono ?_); exact (Z4 fl); exact (Kd.R_reads' fl.out).2.1; exact (Z4 bD); exact (Kd.R_reads' bD.out).2.1; rintro e w' ⟨rfl, ⟨nd, rfl⟩⟩) | (go_at_call 13; (with_reducible refine (impl_ArePins.calls bU _ _ cH q8 _ ?_ ?_ A49.out).mono ?_); exact (Z4 ar); exact (Kd.R_reads' ar.out).2.1; rintro e yw ⟨rfl, hb⟩; refine k9_ (Ya_ be) (Ya_ ar) (Ya_ aM) (Ya_ aW) (Ya_ bb) (Ya_ bC) (Ya_ bD) (Ya_ fl) (below_step (Z1) hb) ?_; clear be ar aM aW bb bC bD fl HB; intro be ar aM aW bb bC bD fl HB; (try clear hb)))
                     (refine Met.intro ?_; go_step; (repeat (first | apply ex_32 | apply ex_8 | apply Exists.intro)); refine ⟨?rel, rfl⟩)
                     case rel => exact ⟨_, (!q8), (Z14), H', ⟨Z71⟩, ⟨Z39⟩, ⟨Z38⟩, ⟨Z1⟩⟩
                   replace c48 := Bool.eq_false_iff.mpr c48
                   subst c48
                   rw [if_neg (show ¬ (false = true) by decide)] at H
                   have H' := Aside0.mk H
                   clear H
                   obtain ⟨Ao57, co57, eo57⟩ := Kd.R_slice aM.out
                   subst eo57
                   as_aux_lemma =>
                    go_wp2_with (first | (go_at_call 8; (with_reducible refine (laws_pSamePins.calls bU _ _ gn _ _ bY true _ ?_ ?_ ?_ ?_ pI.out).mono ?_); exact (Z4 aM); exact (Kd.R_reads' aM.out).2.1; exact (Z4 be); exact (Kd.R_reads' be.out).2.1; rintro e w' ⟨rfl, ⟨nd, rfl⟩⟩; obtain ⟨Ao58, co58, eo58⟩ := Kd.R_slice aW.out; subst eo58; obtain ⟨xb, xc, uI⟩ := Kd.R_slice bb.out; subst uI) | (go_at_call 8; (with_reducible refine (laws_pSamePins.calls bU _ _ jm _ _ bh true _ ?_ ?_ ?_ ?_ sJ.out).mono ?_); exact (Z4 aW); exact (Kd.R_reads' aW.out).2.1; exact (Z4 bb); exact (Kd.R_reads' bb.out).2.1; rintro e w' ⟨rfl, ⟨nd, rfl⟩⟩; obtain ⟨Ao60, co60, eo60⟩ := Kd.R_slice bC.out; subst eo60; obtain ⟨ex, ey, pK⟩ := Kd.R_slice bD.out; subst pK) | (go_at_call 8; (with_reducible refine (laws_pSamePins.calls bU _ _ ob _ _ fU true _ ?_ ?_ ?_ ?_ wW.out).mono ?_); exact (Z4 bC); exact (Kd.R_reads' bC.out).2.1; exact (Z4 bD); exact (Kd.R_reads' bD.out).2.1; rintro e w' ⟨rfl, ⟨nd, rfl⟩⟩; obtain ⟨Ao62, co62, eo62⟩ := Kd.R_slice fl.out; subst eo62) | (go_at_call 8; (with_reducible refine (laws_pSamePins.calls bU _ _ uF _ _ fU false _ ?_ ?_ ?_ ?_ qT.out).mono ?_); exact (Z4 fl); exact (Kd.R_reads' fl.out).2.1; exact (Z4 bD); exact (Kd.R_reads' bD.out).2.1; rintro e w' ⟨rfl, ⟨nd, rfl⟩⟩))
                    (refine Met.intro ?_; go_step; (repeat (first | apply ex_32 | apply ex_8 | apply Exists.intro)); refine ⟨?rel, rfl⟩)
                    case rel => exact ⟨_, (true), (Z14), H', ⟨Z71⟩, ⟨Z39⟩, ⟨Z38⟩, ⟨Z1⟩⟩
                  replace c46 := Bool.eq_false_iff.mpr c46
                  subst c46
                  rw [if_neg (show ¬ (false = true) by decide)] at H
                  have H' := Aside0.mk H
                  clear H
                  obtain ⟨Ao63, co63, eo63⟩ := Kd.R_slice aM.out
                  subst eo63
                  as_aux_lemma =>
                   go_wp2_with (first | (go_at_call 8; (with_reducible refine (laws_pSamePins.calls bU _ _ gn _ _ bY true _ ?_ ?_ ?_ ?_ pI.out).mono ?_); exact (Z4 aM); exact (Kd.R_reads' aM.out).2.1; exact (Z4 be); exact (Kd.R_reads' be.out).2.1; rintro e w' ⟨rfl, ⟨nd, rfl⟩⟩; obtain ⟨Ao64, co64, eo64⟩ := Kd.R_slice aW.out; subst eo64; obtain ⟨Ao65, co65, eo65⟩ := Kd.R_slice bb.out; subst eo65) | (go_at_call 8; (with_reducible refine (laws_pSamePins.calls bU _ _ jm _ _ bh true _ ?_ ?_ ?_ ?_ sJ.out).mono ?_); exact (Z4 aW); exact (Kd.R_reads' aW.out).2.1; exact (Z4 bb); exact (Kd.R_reads' bb.out).2.1; rintro e w' ⟨rfl, ⟨nd, rfl⟩⟩; obtain ⟨Ao66, co66, eo66⟩ := Kd.R_slice bC.out; subst eo66; obtain ⟨Ao67, co67, eo67⟩ := Kd.R_slice bD.out; subst eo67) | (go_at_call 8; (with_reducible refine (laws_pSamePins.calls bU _ _ ob _ _ fU true _ ?_ ?_ ?_ ?_ wW.out).mono ?_); exact (Z4 bC); exact (Kd.R_reads' bC.out).2.1; exact (Z4 bD); exact (Kd.R_reads' bD.out).2.1; rintro e w' ⟨rfl, ⟨nd, rfl⟩⟩))
                   (refine Met.intro ?_; go_step; (repeat (first | apply ex_32 | apply ex_8 | apply Exists.intro)); refine ⟨?rel, rfl⟩)
                   case rel => exact ⟨_, (true), (Z14), H', ⟨Z71⟩, ⟨Z39⟩, ⟨Z38⟩, ⟨Z1⟩⟩
                 rw [if_neg c45] at H
                 have hY : ((wrap64 ((bh.length : Int) + (fU.length : Int))) == (bY.length : Int)) = false := beq_eq_false_iff_ne.mpr c45
                 have pJ : ((wrap64 ((bh.length : Int) + (fU.length : Int))) != (bY.length : Int)) = true := bne_iff_ne.mpr c45
                 (first | rw [hY] | (simp only [i64_w, i32_w]; rw [hY]) | skip)
                 have H' := Aside0.mk H
                 clear H
                 obtain ⟨Ao68, co68, eo68⟩ := Kd.R_slice aM.out
                 subst eo68
                 as_aux_lemma =>
                  go_wp2_with (first | (go_at_call 8; (with_reducible refine (laws_pSamePins.calls bU _ _ gn _ _ bY true _ ?_ ?_ ?_ ?_ pI.out).mono ?_); exact (Z4 aM); exact (Kd.R_reads' aM.out).2.1; exact (Z4 be); exact (Kd.R_reads' be.out).2.1; rintro e w' ⟨rfl, ⟨nd, rfl⟩⟩; obtain ⟨Ao69, co69, eo69⟩ := Kd.R_slice aW.out; subst eo69; obtain ⟨Ao70, co70, eo70⟩ := Kd.R_slice bb.out; subst eo70) | (go_at_call 8; (with_reducible refine (laws_pSamePins.calls bU _ _ jm _ _ bh true _ ?_ ?_ ?_ ?_ sJ.out).mono ?_); exact (Z4 aW); exact (Kd.R_reads' aW.out).2.1; exact (Z4 bb); exact (Kd.R_reads' bb.out).2.1; rintro e w' ⟨rfl, ⟨nd, rfl⟩⟩; obtain ⟨uJ, uK, rg⟩ := Kd.R_slice bC.out; subst rg; obtain ⟨xd, xe, rh⟩ := Kd.R_slice bD.out; subst rh) | (go_at_call 8; (with_reducible refine (laws_pSamePins.calls bU _ _ ob _ _ fU true _ ?_ ?_ ?_ ?_ wW.out).mono ?_); exact (Z4 bC); exact (Kd.R_reads' bC.out).2.1; exact (Z4 bD); exact (Kd.R_reads' bD.out).2.1; rintro e w' ⟨rfl, ⟨nd, rfl⟩⟩))
                  (refine Met.intro ?_; go_step; (repeat (first | apply ex_32 | apply ex_8 | apply Exists.intro)); refine ⟨?rel, rfl⟩)
                  case rel => exact ⟨_, (true), (Z14), H', ⟨Z71⟩, ⟨Z39⟩, ⟨Z38⟩, ⟨Z1⟩⟩
                replace c44 := Bool.eq_false_iff.mpr c44
                subst c44
                rw [if_neg (show ¬ (false = true) by decide)] at H
                have H' := Aside0.mk H
                clear H
                obtain ⟨Ao73, co73, eo73⟩ := Kd.R_slice aM.out
                subst eo73
                as_aux_lemma =>
                 go_wp2_with (first | (go_at_call 8; (with_reducible refine (laws_pSamePins.calls bU _ _ gn _ _ bY true _ ?_ ?_ ?_ ?_ pI.out).mono ?_); exact (Z4 aM); exact (Kd.R_reads' aM.out).2.1; exact (Z4 be); exact (Kd.R_reads' be.out).2.1; rintro e w' ⟨rfl, ⟨nd, rfl⟩⟩; obtain ⟨Ao74, co74, eo74⟩ := Kd.R_slice aW.out; subst eo74; obtain ⟨Ao75, co75, eo75⟩ := Kd.R_slice bb.out; subst eo75) | (go_at_call 8; (with_reducible refine (laws_pSamePins.calls bU _ _ jm _ _ bh true _ ?_ ?_ ?_ ?_ sJ.out).mono ?_); exact (Z4 aW); exact (Kd.R_reads' aW.out).2.1; exact (Z4 bb); exact (Kd.R_reads' bb.out).2.1; rintro e w' ⟨rfl, ⟨nd, rfl⟩⟩; obtain ⟨Ao76, co76, eo76⟩ := Kd.R_slice bC.out; subst eo76; obtain ⟨Ao77, co77, eo77⟩ := Kd.R_slice bD.out; subst eo77) | (go_at_call 8; (with_reducible refine (laws_pSamePins.calls bU _ _ ob _ _ fU false _ ?_ ?_ ?_ ?_ wW.out).mono ?_); exact (Z4 bC); exact (Kd.R_reads' bC.out).2.1; exact (Z4 bD); exact (Kd.R_reads' bD.out).2.1; rintro e w' ⟨rfl, ⟨nd, rfl⟩⟩))
                 (refine Met.intro ?_; go_step; (repeat (first | apply ex_32 | apply ex_8 | apply Exists.intro)); refine ⟨?rel, rfl⟩)
                 case rel => exact ⟨_, (true), (Z14), H', ⟨Z71⟩, ⟨Z39⟩, ⟨Z38⟩, ⟨Z1⟩⟩
               replace c42 := Bool.eq_false_iff.mpr c42
               subst c42
               rw [if_neg (show ¬ (false = true) by decide)] at H
               have H' := Aside0.mk H
               clear H
               obtain ⟨e7, e8, uL⟩ := Kd.R_slice aM.out
               subst uL
               as_aux_lemma =>
                go_wp2_with (first | (go_at_call 8; (with_reducible refine (laws_pSamePins.calls bU _ _ gn _ _ bY true _ ?_ ?_ ?_ ?_ pI.out).mono ?_); exact (Z4 aM); exact (Kd.R_reads' aM.out).2.1; exact (Z4 be); exact (Kd.R_reads' be.out).2.1; rintro e w' ⟨rfl, ⟨nd, rfl⟩⟩; obtain ⟨Ao79, co79, eo79⟩ := Kd.R_slice aW.out; subst eo79; obtain ⟨Ao80, co80, eo80⟩ := Kd.R_slice bb.out; subst eo80) | (go_at_call 8; (with_reducible refine (laws_pSamePins.calls bU _ _ jm _ _ bh true _ ?_ ?_ ?_ ?_ sJ.out).mono ?_); exact (Z4 aW); exact (Kd.R_reads' aW.out).2.1; exact (Z4 bb); exact (Kd.R_reads' bb.out).2.1; rintro e w' ⟨rfl, ⟨nd, rfl⟩⟩))
                (refine Met.intro ?_; go_step; (repeat (first | apply ex_32 | apply ex_8 | apply Exists.intro)); refine ⟨?rel, rfl⟩)
                case rel => exact ⟨_, (true), (Z14), H', ⟨Z71⟩, ⟨Z39⟩, ⟨Z38⟩, ⟨Z1⟩⟩
              replace c41 := Bool.eq_false_iff.mpr c41
              subst c41
              rw [if_neg (show ¬ (false = true) by decide)] at H
              have H' := Aside0.mk H
              clear H
              obtain ⟨Ao81, co81, eo81⟩ := Kd.R_slice aM.out
              subst eo81
              as_aux_lemma =>
               go_wp2_with (first | (go_at_call 8; (with_reducible refine (laws_pSamePins.calls bU _ _ gn _ _ bY true _ ?_ ?_ ?_ ?_ pI.out).mono ?_); exact (Z4 aM); exact (Kd.R_reads' aM.out).2.1; exact (Z4 be); exact (Kd.R_reads' be.out).2.1; rintro e w' ⟨rfl, ⟨nd, rfl⟩⟩; obtain ⟨Ao82, co82, eo82⟩ := Kd.R_slice aW.out; subst eo82; obtain ⟨Ao83, co83, eo83⟩ := Kd.R_slice bb.out; subst eo83) | (go_at_call 8; (with_reducible refine (laws_pSamePins.calls bU _ _ jm _ _ bh true _ ?_ ?_ ?_ ?_ sJ.out).mono ?_); exact (Z4 aW); exact (Kd.R_reads' aW.out).2.1; exact (Z4 bb); exact (Kd.R_reads' bb.out).2.1; rintro e w' ⟨rfl, ⟨nd, rfl⟩⟩))
               (refine Met.intro ?_; go_step; (repeat (first | apply ex_32 | apply ex_8 | apply Exists.intro)); refine ⟨?rel, rfl⟩)
               case rel => exact ⟨_, (true), (Z14), H', ⟨Z71⟩, ⟨Z39⟩, ⟨Z38⟩, ⟨Z1⟩⟩
             replace c40 := Bool.eq_false_iff.mpr c40
             subst c40
             rw [if_neg (show ¬ (false = true) by decide)] at H
             have H' := Aside0.mk H
             clear H
             obtain ⟨Ao84, co84, eo84⟩ := Kd.R_slice aM.out
             subst eo84
             as_aux_lemma =>
              go_wp2_with (first | (go_at_call 8; (with_reducible refine (laws_pSamePins.calls bU _ _ gn _ _ bY true _ ?_ ?_ ?_ ?_ pI.out).mono ?_); exact (Z4 aM); exact (Kd.R_reads' aM.out).2.1; exact (Z4 be); exact (Kd.R_reads' be.out).2.1; rintro e w' ⟨rfl, ⟨nd, rfl⟩⟩; obtain ⟨Ao85, co85, eo85⟩ := Kd.R_slice aW.out; subst eo85; obtain ⟨Ao86, co86, eo86⟩ := Kd.R_slice bb.out; subst eo86) | (go_at_call 8; (with_reducible refine (laws_pSamePins.calls bU _ _ jm _ _ bh false _ ?_ ?_ ?_ ?_ sJ.out).mono ?_); exact (Z4 aW); exact (Kd.R_reads' aW.out).2.1; exact (Z4 bb); exact (Kd.R_reads' bb.out).2.1; rintro e w' ⟨rfl, ⟨nd, rfl⟩⟩))
              (refine Met.intro ?_; go_step; (repeat (first | apply ex_32 | apply ex_8 | apply Exists.intro)); refine ⟨?rel, rfl⟩)
              case rel => exact ⟨_, (true), (Z14), H', ⟨Z71⟩, ⟨Z39⟩, ⟨Z38⟩, ⟨Z1⟩⟩
            replace c38 := Bool.eq_false_iff.mpr c38
            subst c38
            rw [if_neg (show ¬ (false = true) by decide)] at H
            have H' := Aside0.mk H
            clear H
            obtain ⟨Ao87, co87, eo87⟩ := Kd.R_slice aM.out
            subst eo87
            as_aux_lemma =>
             go_wp2_with (first | (go_at_call 8; (with_reducible refine (laws_pSamePins.calls bU _ _ gn _ _ bY true _ ?_ ?_ ?_ ?_ pI.out).mono ?_); exact (Z4 aM); exact (Kd.R_reads' aM.out).2.1; exact (Z4 be); exact (Kd.R_reads' be.out).2.1; rintro e w' ⟨rfl, ⟨nd, rfl⟩⟩))
             (refine Met.intro ?_; go_step; (repeat (first | apply ex_32 | apply ex_8 | apply Exists.intro)); refine ⟨?rel, rfl⟩)
             case rel => exact ⟨_, (true), (Z14), H', ⟨Z71⟩, ⟨Z39⟩, ⟨Z38⟩, ⟨Z1⟩⟩
           replace c37 := Bool.eq_false_iff.mpr c37
           subst c37
           rw [if_neg (show ¬ (false = true) by decide)] at H
           have H' := Aside0.mk H
           clear H
           obtain ⟨uM, uN, ri⟩ := Kd.R_slice aM.out
           subst ri
           as_aux_lemma =>
            go_wp2_with (first | (go_at_call 8; (with_reducible refine (laws_pSamePins.calls bU _ _ gn _ _ bY true _ ?_ ?_ ?_ ?_ pI.out).mono ?_); exact (Z4 aM); exact (Kd.R_reads' aM.out).2.1; exact (Z4 be); exact (Kd.R_reads' be.out).2.1; rintro e w' ⟨rfl, ⟨nd, rfl⟩⟩))
            (refine Met.intro ?_; go_step; (repeat (first | apply ex_32 | apply ex_8 | apply Exists.intro)); refine ⟨?rel, rfl⟩)
            case rel => exact ⟨_, (true), (Z14), H', ⟨Z71⟩, ⟨Z39⟩, ⟨Z38⟩, ⟨Z1⟩⟩
          replace c36 := Bool.eq_false_iff.mpr c36
          subst c36
          rw [if_neg (show ¬ (false = true) by decide)] at H
          have H' := Aside0.mk H
          clear H
          obtain ⟨xf, xg, rj⟩ := Kd.R_slice aM.out
          subst rj
          as_aux_lemma =>
           go_wp2_with (first | (go_at_call 8; (with_reducible refine (laws_pSamePins.calls bU _ _ gn _ _ bY false _ ?_ ?_ ?_ ?_ pI.out).mono ?_); exact (Z4 aM); exact (Kd.R_reads' aM.out).2.1; exact (Z4 be); exact (Kd.R_reads' be.out).2.1; rintro e w' ⟨rfl, ⟨nd, rfl⟩⟩))
           (refine Met.intro ?_; go_step; (repeat (first | apply ex_32 | apply ex_8 | apply Exists.intro)); refine ⟨?rel, rfl⟩)
           case rel => exact ⟨_, (true), (Z14), H', ⟨Z71⟩, ⟨Z39⟩, ⟨Z38⟩, ⟨Z1⟩⟩
         replace c34 := Bool.eq_false_iff.mpr c34
         subst c34
         rw [if_neg (show ¬ (false = true) by decide)] at H
         have H' := Aside0.mk H
         clear H
         as_aux_lemma =>
          go_wp2
          (refine Met.intro ?_; go_step; (repeat (first | apply ex_32 | apply ex_8 | apply Exists.intro)); refine ⟨?rel, rfl⟩)
          case rel => exact ⟨_, (true), (Z14), H', ⟨Z71⟩, ⟨Z39⟩, ⟨Z38⟩, ⟨Z1⟩⟩
       case rest =>
        as_aux_lemma =>
         clear HC26
         (try clear p6); (try clear c9); (try clear c10); (try clear c11); (try clear c12); (try clear c17); (try clear c19); (try clear c34); (try clear c36); (try clear c37); (try clear c38); (try clear c40); (try clear c41); (try clear c42); (try clear c44); (try clear c45); (try clear hY); (try clear pJ); (try clear c46); (try clear c48); (try clear yK)
         obtain ⟨kq, gM, rfl, HA, uO, ar, sK, HB⟩ := hcut
         cases kq with
         | zero => exact absurd HA.out (by simp [laws_FnPins.j1])
         | succ xh =>
          have H := HA.out
          clear HA
          simp only [laws_FnPins.j1] at H
          by_cases c90 : gM = true
          ·subst c90
           rw [if_pos rfl] at H
           obtain rfl := Option.some.inj H
           as_aux_lemma =>
            go_wp2
            go_ret
            exact ⟨Z11, Z1⟩
          replace c90 := Bool.eq_false_iff.mpr c90
          subst c90
          rw [if_neg (show ¬ (false = true) by decide)] at H
          have H' := Aside0.mk H
          clear H
          obtain ⟨xi, t6, eo91⟩ := Kd.R_slice sK.out
          subst eo91
          go_wp2
          go_loopg [193] xh (fun kq v193 w' => ∃ (aI : Int), v193 = .int .i64 aI ∧ Aside0 (laws_FnPins.l0 kq l1 cz bS cH bh (bh.length : Int) aI = some r) ∧ Aside0 (kq ≤ xh) ∧ Aside0 (Kd.R k33 33 w' w.heap.size (fun k_ => some k_ ≠ ((.slice xi bh.length t6) : Value).ownBlock) (.slice jn cH.length iC) cH) ∧ Aside0 (Kd.R k33 33 w' w.heap.size (fun k_ => some k_ ≠ ((.slice jn cH.length iC) : Value).ownBlock) (.slice xi bh.length t6) bh) ∧ Aside0 (Below w.heap.size w w'))
          case atStart => exact ⟨(0), (Z14), H', ⟨Nat.le_refl _⟩, ⟨Z2 ar⟩, ⟨Z2 sK⟩, ⟨Z1⟩⟩
          case round =>
           as_aux_lemma =>
            clear H'
            (try clear c90)
            obtain ⟨aI, rfl, HA, HK3, ar, bm, HB⟩ := hrel
            cases gk with
            | zero => exact absurd HA.out (by simp [laws_FnPins.l0])
            | succ k3 =>
             have H := HA.out
             clear HA
             simp only [laws_FnPins.l0] at H
             by_cases c92 : aI < (bh.length : Int)
             ·rw [if_pos c92] at H
              have sL : decide (aI < (bh.length : Int)) = true := decide_eq_true c92
              clear c92
              by_cases c93 : 0 ≤ aI
              ·rw [if_pos c93] at H
               have pL : decide (0 ≤ aI) = true := decide_eq_true c93
               clear c93
               by_cases c94 : aI < (bh.length : Int)
               ·rw [if_pos c94] at H
                have pM : decide (aI < (bh.length : Int)) = true := decide_eq_true c94
                clear c94
                replace H := Option.bind_eq_some_iff.mp H
                obtain ⟨⟨pN, t592⟩, pO, H⟩ := H
                (try dsimp only at H)
                have qU := Aside0.mk pO
                clear pO
                by_cases c96 : t592 = true
                ·subst c96
                 rw [if_pos rfl] at H
                 replace H := Option.bind_eq_some_iff.mp H
                 obtain ⟨uE, xj, H⟩ := H
                 (try dsimp only at H)
                 have yL := Aside0.mk xj
                 clear xj
                 by_cases c98 : uE = true
                 ·subst c98
                  rw [if_pos rfl] at H
                  have H' := Aside0.mk H
                  clear H
                  have go : 0 ≤ (aI : Int) := of_decide_eq_true (Z12)
                  have gp : aI < (bh.length : Int) := of_decide_eq_true (Z12)
                  obtain ⟨oL, e589, jo, jp, jq⟩ := at_T33 (Kd.R_reads' bm.out).2.2 aI go gp
                  cases e589
                  replace go := eq_true go
                  replace gp := eq_true gp
                  as_aux_lemma =>
                   go_wp2_with (first | ((with_reducible refine gate_dst (N := 25) rfl ?_); (try (refine gate_guard (by rfl) ?_; dsimp only)); refine bv_ 25 33 #[.int .i64 0, .int .i64 0, .int .i64 0] ?_; intro bV hg w99 hbox hb; refine k6_ (Kd.R_below (Kd.R_elderB (Z2 ar) bV (Nat.le_of_eq hg.symm)) hb) (Kd.R_below (Kd.R_elderB (Z2 bm) bV (Nat.le_of_eq hg.symm)) hb) (below_step (Z1) hb) (hbox) ((Z23 : w.heap.size ≤ bV)) ((Z23 : w.heap.size ≤ bV)) ?_; clear ar bm HB; intro ar bm HB dm sM oN; clear hb hbox hg; obtain ⟨hcz100_0, hcz100_1, hcz100_2, hfz100_0, hfz100_1, hfz100_2⟩ := bx3_ (w := w99) dm.out) | ((with_reducible refine gate_callee (f := 14) rfl ?_); refine gl_ 205 Tryd.func14 #[.slice jn cH.length iC, .int .i64 cz, .int .i64 (Int.tmod (wrap64 (((rd_T33 bh aI).f1) + bS)) 360)] ?_; (with_reducible refine (impl_PlayedAt.calls k3 _ _ cH cz (Int.tmod (wrap64 (((rd_T33 bh aI).f1) + bS)) 360) pN true _ ?_ ?_ qU.out).mono ?_); exact Z84; exact (Kd.R_reads' ar.out).2.1; rintro e lb ⟨xk, rfl, ho0, hb⟩; refine ⟨_, rfl, ?_⟩; refine k5_ (Kd.R_below (Z22 ar) hb) (Kd.R_below (Z22 bm) hb) (Kd.R_lower ho0 (below_size (Z47))) (blk_below (g := bV) (o := .cells #[.int .i64 ((rd_T33 bh aI).f0), .int .i64 ((rd_T33 bh aI).f1), .int .i64 ((rd_T33 bh aI).f2)] 33 (0, 0)) (Z40) hb) (below_step (Z47) hb) ?_; clear ar bm dm HB; intro ar bm f3 dm HB; (try clear hb ho0); obtain ⟨hcz102_0, hcz102_1, hcz102_2, hfz102_0, hfz102_1, hfz102_2⟩ := bx3_ (w := lb) dm.out; obtain ⟨Ao103, co103, eo103⟩ := Kd.R_slice f3.out; subst eo103) | (go_at_call 15; (with_reducible refine (laws_pIn.calls k3 _ _ pN ((rd_T33 bh aI).f0) true _ ?_ ?_ yL.out).mono ?_); exact (Z4 f3); exact (Kd.R_reads' f3.out).2.1; rintro e w' ⟨rfl, ⟨nd, rfl⟩⟩))
                   go_roundg k3
                   case measure => have := jA.out; have := uO.out; have := HK3.out; omega
                   case rel => exact ⟨(wrap64 (aI + 1)), (Z14), H', ⟨by have := jA.out; have := uO.out; have := HK3.out; omega⟩, ⟨by (with_reducible repeat (first | apply Kd.R_alloc | apply Kd.R_drewN | apply Kd.R_drew)); exact Kd.R_mono ar.out (fun _ hk => hk.1)⟩, ⟨by (with_reducible repeat (first | apply Kd.R_alloc | apply Kd.R_drewN | apply Kd.R_drew)); exact Kd.R_mono bm.out (fun _ hk => hk.1)⟩, ⟨Z47⟩⟩
                 replace c98 := Bool.eq_false_iff.mpr c98
                 subst c98
                 rw [if_neg (show ¬ (false = true) by decide)] at H
                 obtain rfl := Option.some.inj H
                 have go : 0 ≤ (aI : Int) := of_decide_eq_true (Z12)
                 have gp : aI < (bh.length : Int) := of_decide_eq_true (Z12)
                 obtain ⟨oL, e589, jo, jp, jq⟩ := at_T33 (Kd.R_reads' bm.out).2.2 aI go gp
                 cases e589
                 replace go := eq_true go
                 replace gp := eq_true gp
                 as_aux_lemma =>
                  go_wp2_with (first | ((with_reducible refine gate_dst (N := 25) rfl ?_); (try (refine gate_guard (by rfl) ?_; dsimp only)); refine bv_ 25 33 #[.int .i64 0, .int .i64 0, .int .i64 0] ?_; intro bV hg w104 hbox hb; refine k6_ (Kd.R_below (Kd.R_elderB (Z2 ar) bV (Nat.le_of_eq hg.symm)) hb) (Kd.R_below (Kd.R_elderB (Z2 bm) bV (Nat.le_of_eq hg.symm)) hb) (below_step (Z1) hb) (hbox) ((Z23 : w.heap.size ≤ bV)) ((Z23 : w.heap.size ≤ bV)) ?_; clear ar bm HB; intro ar bm HB dm sM oN; clear hb hbox hg; obtain ⟨hcz105_0, hcz105_1, hcz105_2, hfz105_0, hfz105_1, hfz105_2⟩ := bx3_ (w := w104) dm.out) | ((with_reducible refine gate_callee (f := 14) rfl ?_); refine gl_ 205 Tryd.func14 #[.slice jn cH.length iC, .int .i64 cz, .int .i64 (Int.tmod (wrap64 (((rd_T33 bh aI).f1) + bS)) 360)] ?_; (with_reducible refine (impl_PlayedAt.calls k3 _ _ cH cz (Int.tmod (wrap64 (((rd_T33 bh aI).f1) + bS)) 360) pN true _ ?_ ?_ qU.out).mono ?_); exact Z84; exact (Kd.R_reads' ar.out).2.1; rintro e w106 ⟨xk, rfl, ho0, hb⟩; refine ⟨_, rfl, ?_⟩; refine k5_ (Kd.R_below (Z22 ar) hb) (Kd.R_below (Z22 bm) hb) (Kd.R_lower ho0 (below_size (Z47))) (blk_below (g := bV) (o := .cells #[.int .i64 ((rd_T33 bh aI).f0), .int .i64 ((rd_T33 bh aI).f1), .int .i64 ((rd_T33 bh aI).f2)] 33 (0, 0)) (Z40) hb) (below_step (Z47) hb) ?_; clear ar bm dm HB; intro ar bm f3 dm HB; (try clear hb ho0); obtain ⟨hcz107_0, hcz107_1, hcz107_2, hfz107_0, hfz107_1, hfz107_2⟩ := bx3_ (w := w106) dm.out; obtain ⟨Ao108, co108, eo108⟩ := Kd.R_slice f3.out; subst eo108) | (go_at_call 15; (with_reducible refine (laws_pIn.calls k3 _ _ pN ((rd_T33 bh aI).f0) false _ ?_ ?_ yL.out).mono ?_); exact (Z4 f3); exact (Kd.R_reads' f3.out).2.1; rintro e w' ⟨rfl, ⟨nd, rfl⟩⟩))
                  go_ret
                  exact ⟨Z11, Z47⟩
                replace c96 := Bool.eq_false_iff.mpr c96
                subst c96
                rw [if_neg (show ¬ (false = true) by decide)] at H
                obtain rfl := Option.some.inj H
                have go : 0 ≤ (aI : Int) := of_decide_eq_true (Z12)
                have gp : aI < (bh.length : Int) := of_decide_eq_true (Z12)
                obtain ⟨oL, e589, jo, jp, jq⟩ := at_T33 (Kd.R_reads' bm.out).2.2 aI go gp
                cases e589
                replace go := eq_true go
                replace gp := eq_true gp
                as_aux_lemma =>
                 go_wp2_with (first | ((with_reducible refine gate_dst (N := 25) rfl ?_); (try (refine gate_guard (by rfl) ?_; dsimp only)); refine bv_ 25 33 #[.int .i64 0, .int .i64 0, .int .i64 0] ?_; intro bV hg w109 hbox hb; refine k6_ (Kd.R_below (Kd.R_elderB (Z2 ar) bV (Nat.le_of_eq hg.symm)) hb) (Kd.R_below (Kd.R_elderB (Z2 bm) bV (Nat.le_of_eq hg.symm)) hb) (below_step (Z1) hb) (hbox) ((Z23 : w.heap.size ≤ bV)) ((Z23 : w.heap.size ≤ bV)) ?_; clear ar bm HB; intro ar bm HB dm sM oN; clear hb hbox hg; obtain ⟨hcz110_0, hcz110_1, hcz110_2, hfz110_0, hfz110_1, hfz110_2⟩ := bx3_ (w := w109) dm.out) | ((with_reducible refine gate_callee (f := 14) rfl ?_); refine gl_ 205 Tryd.func14 #[.slice jn cH.length iC, .int .i64 cz, .int .i64 (Int.tmod (wrap64 (((rd_T33 bh aI).f1) + bS)) 360)] ?_; (with_reducible refine (impl_PlayedAt.calls k3 _ _ cH cz (Int.tmod (wrap64 (((rd_T33 bh aI).f1) + bS)) 360) pN false _ ?_ ?_ qU.out).mono ?_); exact Z84; exact (Kd.R_reads' ar.out).2.1; rintro e w111 ⟨xk, rfl, ho0, hb⟩; refine ⟨_, rfl, ?_⟩; refine k5_ (Kd.R_below (Z22 ar) hb) (Kd.R_below (Z22 bm) hb) (Kd.R_lower ho0 (below_size (Z47))) (blk_below (g := bV) (o := .cells #[.int .i64 ((rd_T33 bh aI).f0), .int .i64 ((rd_T33 bh aI).f1), .int .i64 ((rd_T33 bh aI).f2)] 33 (0, 0)) (Z40) hb) (below_step (Z47) hb) ?_; clear ar bm dm HB; intro ar bm f3 dm HB; (try clear hb ho0)))
                 go_ret
                 exact ⟨Z11, Z47⟩
               rw [if_neg c94] at H
               exact absurd H (by simp)
              rw [if_neg c93] at H
              exact absurd H (by simp)
             rw [if_neg c92] at H
             have sL : decide (aI < (bh.length : Int)) = false := decide_eq_false c92
             clear c92
             have H' := Aside0.mk H
             clear H
             as_aux_lemma =>
              go_wp2
              (refine Met.intro ?_; go_step; (repeat (first | apply ex_32 | apply ex_8 | apply Exists.intro)); refine ⟨?rel, rfl⟩)
              case rel => exact ⟨_, H', ⟨by have := jA.out; have := uO.out; have := HK3.out; first | omega | exact Nat.le_refl _⟩, ⟨Z1⟩⟩
      replace c19 := Bool.eq_false_iff.mpr c19
      subst c19
      rw [if_neg (show ¬ (false = true) by decide)] at H
      have H' := Aside0.mk H
      clear H
      as_aux_lemma =>
       go_wp2
       (refine Met.intro ?_; go_step; (repeat (first | apply ex_32 | apply ex_8 | apply Exists.intro)); refine ⟨?rel, rfl⟩)
       case rel => exact ⟨_, H', ⟨Z71⟩, ⟨Z1⟩⟩
    case rest =>
     as_aux_lemma =>
      clear HC18
      (try clear p5); (try clear q5); (try clear hx5); (try clear p6); (try clear c9); (try clear c10); (try clear c11); (try clear c12); (try clear c14); (try clear c17); (try clear c19); (try clear c34); (try clear c36); (try clear c37); (try clear c38); (try clear c40); (try clear c41); (try clear c42); (try clear c44); (try clear c45); (try clear hY); (try clear pJ); (try clear c46); (try clear c48); (try clear p58); (try clear q58); (try clear hx58); (try clear yK); (try clear c90); (try clear c92); (try clear sL); (try clear c93); (try clear pL); (try clear c94); (try clear pM); (try clear c96); (try clear c98); (try clear hcz100_0); (try clear hcz100_1); (try clear hcz100_2); (try clear hcz102_0); (try clear hcz102_1); (try clear hcz102_2); (try clear hcz105_0); (try clear hcz105_1); (try clear hcz105_2); (try clear hcz107_0); (try clear hcz107_1); (try clear hcz107_2); (try clear hcz110_0); (try clear hcz110_1); (try clear hcz110_2); (try clear hfz100_0); (try clear hfz100_1); (try clear hfz100_2); (try clear hfz102_0); (try clear hfz102_1); (try clear hfz102_2); (try clear hfz105_0); (try clear hfz105_1); (try clear hfz105_2); (try clear hfz107_0); (try clear hfz107_1); (try clear hfz107_2); (try clear hfz110_0); (try clear hfz110_1); (try clear hfz110_2); (try clear jo); (try clear jp); (try clear jq); (try clear go); (try clear gp)
      obtain ⟨kq, HA, nS, HB⟩ := hcut
      cases kq with
      | zero => exact absurd HA.out (by simp [laws_FnPins.j3])
      | succ pP =>
       have H := HA.out
       clear HA
       simp only [laws_FnPins.j3] at H
       replace H := Option.bind_eq_some_iff.mp H
       obtain ⟨⟨gq, fm, fo⟩, sN, H⟩ := H
       (try dsimp only at H)
       have A112 := Aside0.mk sN
       clear sN
       replace H := Option.bind_eq_some_iff.mp H
       obtain ⟨⟨fp, ib⟩, sO, H⟩ := H
       (try dsimp only at H)
       have A113 := Aside0.mk sO
       clear sO
       replace H := Option.bind_eq_some_iff.mp H
       obtain ⟨⟨xl, jr⟩, sP, H⟩ := H
       (try dsimp only at H)
       have A114 := Aside0.mk sP
       clear sP
       have HC115 := Aside0.mk H
       clear H
       go_upto_region 27 with (first | ((with_reducible refine gate_callee (f := 16) rfl ?_); refine gl_ 220 Tryd.func16 #[.slice A1 l1.length c1] ?_; (with_reducible refine (spec_DrawSwapTunes.calls pP _ _ l1 gq fm fo _ ?_ ?_ A112.out).mono ?_); exact (Z16 HR1); exact HC1.out; rintro e w116 ⟨v599, rfl, ho0, hb⟩; refine ⟨_, rfl, ?_⟩; refine k2_ (Kd.R_lower ho0 (below_size (Z1))) (below_step (Z1) hb) ?_; clear HB; intro cW HB; (try clear hb ho0); obtain ⟨nE, nF, eo117⟩ := Kd.R_slice cW.out; subst eo117) | ((with_reducible refine gate_callee (f := 17) rfl ?_); refine gl_ 228 Tryd.func17 #[.slice nE gq.length nF, .int .i64 fm, .int .i64 fo] ?_; (with_reducible refine (impl_SwapTunes.calls pP _ _ gq fm fo fp ib _ ?_ ?_ A113.out).mono ?_); exact (Z4 cW); exact (Kd.R_reads' cW.out).2.1; rintro e w118 ⟨xm, rfl, ho0, hb⟩; refine ⟨_, rfl, ?_⟩; refine k3_ (Yb_ cW) (Kd.R_lower (Kd.R_new' ho0 (Yd_ cW)) (below_size (Z1))) (below_step (Z1) hb) ?_; clear cW HB; intro cW fq HB; (try clear hb ho0)) | ((with_reducible refine gate_callee (f := 18) rfl ?_); refine gl_ 235 Tryd.func18 #[.slice nE gq.length nF, .int .i64 fm, .int .i64 fo] ?_; (with_reducible refine (spec_SwapTunes.calls pP _ _ gq fm fo xl jr _ ?_ ?_ A114.out).mono ?_); exact (Z4 cW); exact (Kd.R_reads' cW.out).2.1; rintro e rk ⟨v607, rfl, ho0, hb⟩; refine ⟨_, rfl, ?_⟩; refine k4_ (Yb_ cW) (Yb_ fq) (Kd.R_lower (Kd.R_new' (Kd.R_new' ho0 (Yd_ cW)) (Yd_ fq)) (below_size (Z1))) (below_step (Z1) hb) ?_; clear cW fq HB; intro cW fq pQ HB; (try clear hb ho0)))
       (try simp only [Act.put, List.setIfInBounds_toArray, List.set_cons_zero, List.set_cons_succ])
       go_cut [246] (fun v246 wc => ∃ (kq : Nat) (ft : Bool), v246 = .bool ft ∧ Aside0 (laws_FnPins.j4 kq l1 gq fm fo fp ib ft = some r) ∧ Aside0 (kq ≤ pP) ∧ Aside0 (Kd.R k33 33 wc w.heap.size (fun k_ => some k_ ≠ (xm : Value).ownBlock) (.slice nE gq.length nF) gq) ∧ Aside0 (Kd.R k33 33 wc w.heap.size (fun k_ => some k_ ≠ ((.slice nE gq.length nF) : Value).ownBlock) xm fp) ∧ Aside0 (Below w.heap.size w wc))
       case first =>
        as_aux_lemma =>
         have H := HC115.out
         clear HC115
         by_cases c120 : (ib != jr) = true
         ·rw [if_pos c120] at H
          have d4 : (ib != jr) = true := c120
          (try (have ic : decide (ib = jr) = false := by simpa using c120))
          (try (have pR : (ib == jr) = false := by simpa using c120))
          (try (have c120b3 : ¬ (ib = jr) := by simpa using c120))
          clear c120
          (first | rw [d4] | (simp only [i64_w, i32_w]; rw [d4]) | skip)
          have H' := Aside0.mk H
          clear H
          as_aux_lemma =>
           go_wp2
           (refine Met.intro ?_; go_step; (repeat (first | apply ex_32 | apply ex_8 | apply Exists.intro)); refine ⟨?rel, rfl⟩)
           case rel => exact ⟨_, (true), (Z14), H', ⟨by have := jA.out; have := nS.out; first | omega | exact Nat.le_refl _⟩, ⟨Z51 cW⟩, ⟨Z51 fq⟩, ⟨Z1⟩⟩
         rw [if_neg c120] at H
         have d4 : (ib != jr) = false := by simpa using c120
         (try (have ic : decide (ib = jr) = true := by simpa using c120))
         (try (have pR : (ib == jr) = true := by simpa using c120))
         clear c120
         (first | rw [d4] | (simp only [i64_w, i32_w]; rw [d4]) | skip)
         replace H := Option.bind_eq_some_iff.mp H
         obtain ⟨ra, sQ, H⟩ := H
         (try dsimp only at H)
         have A121 := Aside0.mk sQ
         clear sQ
         have H' := Aside0.mk H
         clear H
         obtain ⟨Ao122, co122, eo122⟩ := Kd.R_slice fq.out
         subst eo122
         obtain ⟨Ao123, nG, pS⟩ := Kd.R_slice pQ.out
         subst pS
         as_aux_lemma =>
          go_wp2_with (first | (go_at_call 8; (with_reducible refine (laws_pSamePins.calls pP _ _ fp _ _ xl ra _ ?_ ?_ ?_ ?_ A121.out).mono ?_); exact (Z4 fq); exact (Kd.R_reads' fq.out).2.1; exact (Z4 pQ); exact (Kd.R_reads' pQ.out).2.1; rintro e w' ⟨rfl, ⟨nd, rfl⟩⟩))
          (refine Met.intro ?_; go_step; (repeat (first | apply ex_32 | apply ex_8 | apply Exists.intro)); refine ⟨?rel, rfl⟩)
          case rel => exact ⟨_, (!ra), (Z14), H', ⟨by have := jA.out; have := nS.out; first | omega | exact Nat.le_refl _⟩, ⟨Z51 cW⟩, ⟨Z51 fq⟩, ⟨Z1⟩⟩
       case rest =>
        as_aux_lemma =>
         clear HC115
         (try clear c16); (try clear c18); (try clear c120); (try clear d4); (try clear ic); (try clear pR)
         obtain ⟨kq, ft, rfl, HA, mL, br, bc, HB⟩ := hcut
         cases kq with
         | zero => exact absurd HA.out (by simp [laws_FnPins.j4])
         | succ eW =>
          have H := HA.out
          clear HA
          simp only [laws_FnPins.j4] at H
          by_cases c124 : ft = true
          ·subst c124
           rw [if_pos rfl] at H
           obtain rfl := Option.some.inj H
           as_aux_lemma =>
            go_wp2
            go_ret
            exact ⟨Z11, Z1⟩
          replace c124 := Bool.eq_false_iff.mpr c124
          subst c124
          rw [if_neg (show ¬ (false = true) by decide)] at H
          have HC125 := Aside0.mk H
          clear H
          go_upto_if 247 with (fail)
          go_cut [] (fun wc => ∃ (kq : Nat), Aside0 (laws_FnPins.j5 kq l1 = some r) ∧ Aside0 (kq ≤ eW) ∧ Aside0 (Below w.heap.size w wc))
          case first =>
           as_aux_lemma =>
            have H := HC125.out
            clear HC125
            by_cases c126 : ib = true
            ·subst c126
             rw [if_pos rfl] at H
             replace H := Option.bind_eq_some_iff.mp H
             obtain ⟨⟨mu, t611⟩, sR, H⟩ := H
             (try dsimp only at H)
             have rl := Aside0.mk sR
             clear sR
             by_cases c128 : t611 = true
             ·subst c128
              rw [if_pos rfl] at H
              replace H := Option.bind_eq_some_iff.mp H
              obtain ⟨uB, sS, H⟩ := H
              (try dsimp only at H)
              have uP := Aside0.mk sS
              clear sS
              by_cases c130 : uB = true
              ·subst c130
               rw [if_pos rfl] at H
               replace H := Option.bind_eq_some_iff.mp H
               obtain ⟨uC, sT, H⟩ := H
               (try dsimp only at H)
               have xn := Aside0.mk sT
               clear sT
               by_cases c132 : uC = true
               ·subst c132
                rw [if_pos rfl] at H
                have H' := Aside0.mk H
                clear H
                obtain ⟨Ao133, co133, eo133⟩ := Kd.R_slice bc.out
                subst eo133
                as_aux_lemma =>
                 go_wp2_with (first | ((with_reducible refine gate_callee (f := 17) rfl ?_); refine gl_ 252 Tryd.func17 #[.slice Ao133 fp.length co133, .int .i64 fo, .int .i64 fm] ?_; (with_reducible refine (impl_SwapTunes.calls eW _ _ fp fo fm mu true _ ?_ ?_ rl.out).mono ?_); exact (Z4 bc); exact (Kd.R_reads' bc.out).2.1; rintro e w134 ⟨uQ, rfl, ho0, hb⟩; refine ⟨_, rfl, ?_⟩; refine k4_ (Yb_ br) (Yb_ bc) (Kd.R_lower (Kd.R_new' (Kd.R_new' ho0 (Yd_ br)) (Yd_ bc)) (below_size (Z1))) (below_step (Z1) hb) ?_; clear br bc HB; intro br bc ct HB; (try clear hb ho0); obtain ⟨Ao135, sU, pT⟩ := Kd.R_slice ct.out; subst pT) | (go_at_call 8; (with_reducible refine (laws_pSamePins.calls eW _ _ mu _ _ gq true _ ?_ ?_ ?_ ?_ uP.out).mono ?_); exact (Z4 ct); exact (Kd.R_reads' ct.out).2.1; exact (Z4 br); exact (Kd.R_reads' br.out).2.1; rintro e w' ⟨rfl, ⟨nd, rfl⟩⟩) | (go_at_call 13; (with_reducible refine (impl_ArePins.calls eW _ _ fp true _ ?_ ?_ xn.out).mono ?_); exact (Z4 bc); exact (Kd.R_reads' bc.out).2.1; rintro e w136 ⟨rfl, hb⟩; refine k4_ (Ya_ br) (Ya_ bc) (Ya_ ct) (below_step (Z1) hb) ?_; clear br bc ct HB; intro br bc ct HB; (try clear hb)))
                 (refine Met.intro ?_; go_step; (repeat (first | apply ex_32 | apply ex_8 | apply Exists.intro)); refine ⟨?rel, rfl⟩)
                 case rel => exact ⟨_, H', ⟨by have := jA.out; have := nS.out; have := mL.out; first | omega | exact Nat.le_refl _⟩, ⟨Z1⟩⟩
               replace c132 := Bool.eq_false_iff.mpr c132
               subst c132
               rw [if_neg (show ¬ (false = true) by decide)] at H
               obtain rfl := Option.some.inj H
               obtain ⟨Ao137, co137, eo137⟩ := Kd.R_slice bc.out
               subst eo137
               as_aux_lemma =>
                go_wp2_with (first | ((with_reducible refine gate_callee (f := 17) rfl ?_); refine gl_ 252 Tryd.func17 #[.slice Ao137 fp.length co137, .int .i64 fo, .int .i64 fm] ?_; (with_reducible refine (impl_SwapTunes.calls eW _ _ fp fo fm mu true _ ?_ ?_ rl.out).mono ?_); exact (Z4 bc); exact (Kd.R_reads' bc.out).2.1; rintro e w138 ⟨uQ, rfl, ho0, hb⟩; refine ⟨_, rfl, ?_⟩; refine k4_ (Yb_ br) (Yb_ bc) (Kd.R_lower (Kd.R_new' (Kd.R_new' ho0 (Yd_ br)) (Yd_ bc)) (below_size (Z1))) (below_step (Z1) hb) ?_; clear br bc HB; intro br bc ct HB; (try clear hb ho0); obtain ⟨Ao139, co139, eo139⟩ := Kd.R_slice ct.out; subst eo139) | (go_at_call 8; (with_reducible refine (laws_pSamePins.calls eW _ _ mu _ _ gq true _ ?_ ?_ ?_ ?_ uP.out).mono ?_); exact (Z4 ct); exact (Kd.R_reads' ct.out).2.1; exact (Z4 br); exact (Kd.R_reads' br.out).2.1; rintro e w' ⟨rfl, ⟨nd, rfl⟩⟩) | (go_at_call 13; (with_reducible refine (impl_ArePins.calls eW _ _ fp false _ ?_ ?_ xn.out).mono ?_); exact (Z4 bc); exact (Kd.R_reads' bc.out).2.1; rintro e w140 ⟨rfl, hb⟩; refine k4_ (Ya_ br) (Ya_ bc) (Ya_ ct) (below_step (Z1) hb) ?_; clear br bc ct HB; intro br bc ct HB; (try clear hb)))
                go_ret
                exact ⟨Z11, Z1⟩
              replace c130 := Bool.eq_false_iff.mpr c130
              subst c130
              rw [if_neg (show ¬ (false = true) by decide)] at H
              obtain rfl := Option.some.inj H
              obtain ⟨pU, pV, pW⟩ := Kd.R_slice bc.out
              subst pW
              as_aux_lemma =>
               go_wp2_with (first | ((with_reducible refine gate_callee (f := 17) rfl ?_); refine gl_ 252 Tryd.func17 #[.slice pU fp.length pV, .int .i64 fo, .int .i64 fm] ?_; (with_reducible refine (impl_SwapTunes.calls eW _ _ fp fo fm mu true _ ?_ ?_ rl.out).mono ?_); exact (Z4 bc); exact (Kd.R_reads' bc.out).2.1; rintro e w142 ⟨uQ, rfl, ho0, hb⟩; refine ⟨_, rfl, ?_⟩; refine k4_ (Yb_ br) (Yb_ bc) (Kd.R_lower (Kd.R_new' (Kd.R_new' ho0 (Yd_ br)) (Yd_ bc)) (below_size (Z1))) (below_step (Z1) hb) ?_; clear br bc HB; intro br bc ct HB; (try clear hb ho0); obtain ⟨Ao143, co143, pX⟩ := Kd.R_slice ct.out; subst pX) | (go_at_call 8; (with_reducible refine (laws_pSamePins.calls eW _ _ mu _ _ gq false _ ?_ ?_ ?_ ?_ uP.out).mono ?_); exact (Z4 ct); exact (Kd.R_reads' ct.out).2.1; exact (Z4 br); exact (Kd.R_reads' br.out).2.1; rintro e w' ⟨rfl, ⟨nd, rfl⟩⟩))
               go_ret
               exact ⟨Z11, Z1⟩
             replace c128 := Bool.eq_false_iff.mpr c128
             subst c128
             rw [if_neg (show ¬ (false = true) by decide)] at H
             obtain rfl := Option.some.inj H
             obtain ⟨Ao144, co144, eo144⟩ := Kd.R_slice bc.out
             subst eo144
             as_aux_lemma =>
              go_wp2_with (first | ((with_reducible refine gate_callee (f := 17) rfl ?_); refine gl_ 252 Tryd.func17 #[.slice Ao144 fp.length co144, .int .i64 fo, .int .i64 fm] ?_; (with_reducible refine (impl_SwapTunes.calls eW _ _ fp fo fm mu false _ ?_ ?_ rl.out).mono ?_); exact (Z4 bc); exact (Kd.R_reads' bc.out).2.1; rintro e w145 ⟨uQ, rfl, ho0, hb⟩; refine ⟨_, rfl, ?_⟩; refine k4_ (Yb_ br) (Yb_ bc) (Kd.R_lower (Kd.R_new' (Kd.R_new' ho0 (Yd_ br)) (Yd_ bc)) (below_size (Z1))) (below_step (Z1) hb) ?_; clear br bc HB; intro br bc ct HB; (try clear hb ho0)))
              go_ret
              exact ⟨Z11, Z1⟩
            replace c126 := Bool.eq_false_iff.mpr c126
            subst c126
            rw [if_neg (show ¬ (false = true) by decide)] at H
            have H' := Aside0.mk H
            clear H
            as_aux_lemma =>
             go_wp2
             (refine Met.intro ?_; go_step; (repeat (first | apply ex_32 | apply ex_8 | apply Exists.intro)); refine ⟨?rel, rfl⟩)
             case rel => exact ⟨_, H', ⟨by have := jA.out; have := nS.out; have := mL.out; first | omega | exact Nat.le_refl _⟩, ⟨Z1⟩⟩
          case rest =>
           as_aux_lemma =>
            clear HC125
            (try clear c124); (try clear c126); (try clear c128); (try clear c130); (try clear c132)
            obtain ⟨kq, HA, rP, HB⟩ := hcut
            cases kq with
            | zero => exact absurd HA.out (by simp [laws_FnPins.j5])
            | succ nH =>
             have H := HA.out
             clear HA
             simp only [laws_FnPins.j5] at H
             replace H := Option.bind_eq_some_iff.mp H
             obtain ⟨⟨eo, eO, eP⟩, sV, H⟩ := H
             (try dsimp only at H)
             have A146 := Aside0.mk sV
             clear sV
             replace H := Option.bind_eq_some_iff.mp H
             obtain ⟨⟨xo, ig⟩, sW, H⟩ := H
             (try dsimp only at H)
             have A147 := Aside0.mk sW
             clear sW
             replace H := Option.bind_eq_some_iff.mp H
             obtain ⟨⟨d5, js⟩, sX, H⟩ := H
             (try dsimp only at H)
             have A148 := Aside0.mk sX
             clear sX
             have HC149 := Aside0.mk H
             clear H
             go_upto_region 36 with (first | ((with_reducible refine gate_callee (f := 19) rfl ?_); refine gl_ 270 Tryd.func19 #[.slice A1 l1.length c1] ?_; (with_reducible refine (spec_DrawNextPlayed.calls nH _ _ l1 eo eO eP _ ?_ ?_ A146.out).mono ?_); exact (Z16 HR1); exact HC1.out; rintro e w150 ⟨v619, rfl, ho0, hb⟩; refine ⟨_, rfl, ?_⟩; refine k2_ (Kd.R_lower ho0 (below_size (Z1))) (below_step (Z1) hb) ?_; clear HB; intro dL HB; (try clear hb ho0); obtain ⟨f4, f5, eo151⟩ := Kd.R_slice dL.out; subst eo151) | ((with_reducible refine gate_callee (f := 20) rfl ?_); refine gl_ 278 Tryd.func20 #[.slice f4 eo.length f5, .int .i64 eO, .int .i64 eP] ?_; (with_reducible refine (impl_NextPlayed.calls nH _ _ eo eO eP xo ig _ ?_ ?_ A147.out).mono ?_); exact (Z4 dL); exact (Kd.R_reads' dL.out).2.1; rintro e w152 ⟨rfl, hb⟩; refine ⟨_, rfl, ?_⟩; refine k2_ (Ya_ dL) (below_step (Z1) hb) ?_; clear dL HB; intro dL HB; (try clear hb)) | ((with_reducible refine gate_callee (f := 21) rfl ?_); refine gl_ 285 Tryd.func21 #[.slice f4 eo.length f5, .int .i64 eO, .int .i64 eP] ?_; (with_reducible refine (spec_NextPlayed.calls nH _ _ eo eO eP d5 js _ ?_ ?_ A148.out).mono ?_); exact (Z4 dL); exact (Kd.R_reads' dL.out).2.1; rintro e w153 ⟨rfl, hb⟩; refine ⟨_, rfl, ?_⟩; refine k2_ (Ya_ dL) (below_step (Z1) hb) ?_; clear dL HB; intro dL HB; (try clear hb)))
             (try simp only [Act.put, List.setIfInBounds_toArray, List.set_cons_zero, List.set_cons_succ])
             go_cut [295] (fun v295 wc => ∃ (kq : Nat) (fu : Bool), v295 = .bool fu ∧ Aside0 (laws_FnPins.j6 kq l1 eo eO eP ig d5 fu = some r) ∧ Aside0 (kq ≤ nH) ∧ Aside0 (Kd.R k33 33 wc w.heap.size (fun _ => True) (.slice f4 eo.length f5) eo) ∧ Aside0 (Below w.heap.size w wc))
             case first =>
              as_aux_lemma =>
               have H := HC149.out
               clear HC149
               by_cases c154 : (ig != js) = true
               ·rw [if_pos c154] at H
                have fV : (ig != js) = true := c154
                (try (have pY : decide (ig = js) = false := by simpa using c154))
                (try (have pZ : (ig == js) = false := by simpa using c154))
                (try (have c154b3 : ¬ (ig = js) := by simpa using c154))
                clear c154
                (first | rw [fV] | (simp only [i64_w, i32_w]; rw [fV]) | skip)
                have H' := Aside0.mk H
                clear H
                as_aux_lemma =>
                 go_wp2
                 (refine Met.intro ?_; go_step; (repeat (first | apply ex_32 | apply ex_8 | apply Exists.intro)); refine ⟨?rel, rfl⟩)
                 case rel => exact ⟨_, (true), (Z14), H', ⟨Z114⟩, ⟨Z2 dL⟩, ⟨Z1⟩⟩
               rw [if_neg c154] at H
               have fV : (ig != js) = false := by simpa using c154
               (try (have pY : decide (ig = js) = true := by simpa using c154))
               (try (have pZ : (ig == js) = true := by simpa using c154))
               clear c154
               (first | rw [fV] | (simp only [i64_w, i32_w]; rw [fV]) | skip)
               have H' := Aside0.mk H
               clear H
               as_aux_lemma =>
                go_wp2
                (refine Met.intro ?_; go_step; (repeat (first | apply ex_32 | apply ex_8 | apply Exists.intro)); refine ⟨?rel, rfl⟩)
                case rel => exact ⟨_, ((xo != d5)), (Z14), H', ⟨Z114⟩, ⟨Z2 dL⟩, ⟨Z1⟩⟩
             case rest =>
              as_aux_lemma =>
               clear HC149
               (try clear c2); (try clear c15); (try clear c20); (try clear c21); (try clear c154); (try clear fV); (try clear pY); (try clear pZ)
               obtain ⟨kq, fu, rfl, HA, HJ148, bR, HB⟩ := hcut
               cases kq with
               | zero => exact absurd HA.out (by simp [laws_FnPins.j6])
               | succ iP =>
                have H := HA.out
                clear HA
                simp only [laws_FnPins.j6] at H
                by_cases c155 : fu = true
                ·subst c155
                 rw [if_pos rfl] at H
                 obtain rfl := Option.some.inj H
                 as_aux_lemma =>
                  go_wp2
                  go_ret
                  exact ⟨Z11, Z1⟩
                replace c155 := Bool.eq_false_iff.mpr c155
                subst c155
                rw [if_neg (show ¬ (false = true) by decide)] at H
                have HC156 := Aside0.mk H
                clear H
                go_upto_if 296 with (fail)
                go_cut [] (fun wc => ∃ (kq : Nat), Aside0 (laws_FnPins.j7 kq l1 = some r) ∧ Aside0 (kq ≤ iP) ∧ Aside0 (Below w.heap.size w wc))
                case first =>
                 as_aux_lemma =>
                  have H := HC156.out
                  clear HC156
                  by_cases c157 : ig = true
                  ·subst c157
                   rw [if_pos rfl] at H
                   replace H := Option.bind_eq_some_iff.mp H
                   obtain ⟨⟨ii, t626⟩, sY, H⟩ := H
                   (try dsimp only at H)
                   have p0 := Aside0.mk sY
                   clear sY
                   by_cases c159 : t626 = true
                   ·subst c159
                    rw [if_pos rfl] at H
                    by_cases c160 : (ii.length : Int) = 0
                    ·rw [if_pos c160] at H
                     have fW : ((ii.length : Int) == 0) = true := beq_iff_eq.mpr c160
                     have p3 : ((ii.length : Int) != 0) = false := bne_eq_false_iff_eq.mpr c160
                     clear c160
                     (first | rw [fW] | (simp only [i64_w, i32_w]; rw [fW]) | skip)
                     obtain rfl := Option.some.inj H
                     as_aux_lemma =>
                      go_wp2_with (first | ((with_reducible refine gate_callee (f := 14) rfl ?_); refine gl_ 304 Tryd.func14 #[.slice f4 eo.length f5, .int .i64 eO, .int .i64 (Int.tmod (wrap64 (eP + d5)) 360)] ?_; (with_reducible refine (impl_PlayedAt.calls iP _ _ eo eO (Int.tmod (wrap64 (eP + d5)) 360) ii true _ ?_ ?_ p0.out).mono ?_); exact (Z4 bR); exact (Kd.R_reads' bR.out).2.1; rintro e w161 ⟨rm, rfl, ho0, hb⟩; refine ⟨_, rfl, ?_⟩; refine k3_ (Ya_ bR) (Kd.R_lower ho0 (below_size (Z1))) (below_step (Z1) hb) ?_; clear bR HB; intro bR f6 HB; (try clear hb ho0); obtain ⟨Ao162, co162, eo162⟩ := Kd.R_slice f6.out; subst eo162))
                      go_ret
                      exact ⟨Z11, Z1⟩
                    rw [if_neg c160] at H
                    have fW : ((ii.length : Int) == 0) = false := beq_eq_false_iff_ne.mpr c160
                    have p3 : ((ii.length : Int) != 0) = true := bne_iff_ne.mpr c160
                    have c160b2 : ¬ (ii = []) := fun h_ => c160 (by rw [h_]; rfl)
                    (first | rw [fW] | (simp only [i64_w, i32_w]; rw [fW]) | skip)
                    by_cases c163 : d5 < 0
                    ·rw [if_pos c163] at H
                     have p4 : decide (d5 < 0) = true := decide_eq_true c163
                     clear c163
                     obtain rfl := Option.some.inj H
                     as_aux_lemma =>
                      go_wp2_with (first | ((with_reducible refine gate_callee (f := 14) rfl ?_); refine gl_ 304 Tryd.func14 #[.slice f4 eo.length f5, .int .i64 eO, .int .i64 (Int.tmod (wrap64 (eP + d5)) 360)] ?_; (with_reducible refine (impl_PlayedAt.calls iP _ _ eo eO (Int.tmod (wrap64 (eP + d5)) 360) ii true _ ?_ ?_ p0.out).mono ?_); exact (Z4 bR); exact (Kd.R_reads' bR.out).2.1; rintro e w164 ⟨rm, rfl, ho0, hb⟩; refine ⟨_, rfl, ?_⟩; refine k3_ (Ya_ bR) (Kd.R_lower ho0 (below_size (Z1))) (below_step (Z1) hb) ?_; clear bR HB; intro bR f6 HB; (try clear hb ho0); obtain ⟨Ao165, co165, eo165⟩ := Kd.R_slice f6.out; subst eo165))
                      go_ret
                      exact ⟨Z11, Z1⟩
                    rw [if_neg c163] at H
                    have p4 : decide (d5 < 0) = false := decide_eq_false c163
                    clear c163
                    by_cases c166 : d5 ≥ 360
                    ·rw [if_pos c166] at H
                     have p7 : decide (360 ≤ d5) = true := decide_eq_true c166
                     clear c166
                     obtain rfl := Option.some.inj H
                     as_aux_lemma =>
                      go_wp2_with (first | ((with_reducible refine gate_callee (f := 14) rfl ?_); refine gl_ 304 Tryd.func14 #[.slice f4 eo.length f5, .int .i64 eO, .int .i64 (Int.tmod (wrap64 (eP + d5)) 360)] ?_; (with_reducible refine (impl_PlayedAt.calls iP _ _ eo eO (Int.tmod (wrap64 (eP + d5)) 360) ii true _ ?_ ?_ p0.out).mono ?_); exact (Z4 bR); exact (Kd.R_reads' bR.out).2.1; rintro e w167 ⟨rm, rfl, ho0, hb⟩; refine ⟨_, rfl, ?_⟩; refine k3_ (Ya_ bR) (Kd.R_lower ho0 (below_size (Z1))) (below_step (Z1) hb) ?_; clear bR HB; intro bR f6 HB; (try clear hb ho0); obtain ⟨Ao168, co168, eo168⟩ := Kd.R_slice f6.out; subst eo168))
                      go_ret
                      exact ⟨Z11, Z1⟩
                    rw [if_neg c166] at H
                    have p7 : decide (360 ≤ d5) = false := decide_eq_false c166
                    clear c166
                    have H' := Aside0.mk H
                    clear H
                    as_aux_lemma =>
                     go_wp2_with (first | ((with_reducible refine gate_callee (f := 14) rfl ?_); refine gl_ 304 Tryd.func14 #[.slice f4 eo.length f5, .int .i64 eO, .int .i64 (Int.tmod (wrap64 (eP + d5)) 360)] ?_; (with_reducible refine (impl_PlayedAt.calls iP _ _ eo eO (Int.tmod (wrap64 (eP + d5)) 360) ii true _ ?_ ?_ p0.out).mono ?_); exact (Z4 bR); exact (Kd.R_reads' bR.out).2.1; rintro e w169 ⟨rm, rfl, ho0, hb⟩; refine ⟨_, rfl, ?_⟩; refine k3_ (Ya_ bR) (Kd.R_lower ho0 (below_size (Z1))) (below_step (Z1) hb) ?_; clear bR HB; intro bR f6 HB; (try clear hb ho0); obtain ⟨Ao170, co170, eo170⟩ := Kd.R_slice f6.out; subst eo170))
                     (refine Met.intro ?_; go_step; (repeat (first | apply ex_32 | apply ex_8 | apply Exists.intro)); refine ⟨?rel, rfl⟩)
                     case rel => exact ⟨_, H', ⟨Z113⟩, ⟨Z1⟩⟩
                   replace c159 := Bool.eq_false_iff.mpr c159
                   subst c159
                   rw [if_neg (show ¬ (false = true) by decide)] at H
                   obtain rfl := Option.some.inj H
                   as_aux_lemma =>
                    go_wp2_with (first | ((with_reducible refine gate_callee (f := 14) rfl ?_); refine gl_ 304 Tryd.func14 #[.slice f4 eo.length f5, .int .i64 eO, .int .i64 (Int.tmod (wrap64 (eP + d5)) 360)] ?_; (with_reducible refine (impl_PlayedAt.calls iP _ _ eo eO (Int.tmod (wrap64 (eP + d5)) 360) ii false _ ?_ ?_ p0.out).mono ?_); exact (Z4 bR); exact (Kd.R_reads' bR.out).2.1; rintro e w171 ⟨rm, rfl, ho0, hb⟩; refine ⟨_, rfl, ?_⟩; refine k3_ (Ya_ bR) (Kd.R_lower ho0 (below_size (Z1))) (below_step (Z1) hb) ?_; clear bR HB; intro bR f6 HB; (try clear hb ho0)))
                    go_ret
                    exact ⟨Z11, Z1⟩
                  replace c157 := Bool.eq_false_iff.mpr c157
                  subst c157
                  rw [if_neg (show ¬ (false = true) by decide)] at H
                  have H' := Aside0.mk H
                  clear H
                  as_aux_lemma =>
                   go_wp2
                   (refine Met.intro ?_; go_step; (repeat (first | apply ex_32 | apply ex_8 | apply Exists.intro)); refine ⟨?rel, rfl⟩)
                   case rel => exact ⟨_, H', ⟨Z113⟩, ⟨Z1⟩⟩
                case rest =>
                 as_aux_lemma =>
                  clear HC156
                  (try clear c155); (try clear c157); (try clear c159); (try clear c160); (try clear fW); (try clear p3); (try clear c160b2); (try clear c163); (try clear p4); (try clear c166); (try clear p7)
                  obtain ⟨kq, HA, HJ155, HB⟩ := hcut
                  cases kq with
                  | zero => exact absurd HA.out (by simp [laws_FnPins.j7])
                  | succ bx =>
                   have H := HA.out
                   clear HA
                   simp only [laws_FnPins.j7] at H
                   replace H := Option.bind_eq_some_iff.mp H
                   obtain ⟨⟨dM, dN, dO⟩, sZ, H⟩ := H
                   (try dsimp only at H)
                   have rn := Aside0.mk sZ
                   clear sZ
                   replace H := Option.bind_eq_some_iff.mp H
                   obtain ⟨⟨mv, gr⟩, s7, H⟩ := H
                   (try dsimp only at H)
                   have ro := Aside0.mk s7
                   clear s7
                   replace H := Option.bind_eq_some_iff.mp H
                   obtain ⟨⟨mw, gs⟩, s8, H⟩ := H
                   (try dsimp only at H)
                   have rp := Aside0.mk s8
                   clear s8
                   replace H := Option.bind_eq_some_iff.mp H
                   obtain ⟨cU, s9, H⟩ := H
                   (try dsimp only at H)
                   have rq := Aside0.mk s9
                   clear s9
                   replace H := Option.bind_eq_some_iff.mp H
                   obtain ⟨⟨rr, gt⟩, ta, H⟩ := H
                   (try dsimp only at H)
                   have rt := Aside0.mk ta
                   clear ta
                   replace H := Option.bind_eq_some_iff.mp H
                   obtain ⟨⟨ru, gu⟩, tb, H⟩ := H
                   (try dsimp only at H)
                   have rv := Aside0.mk tb
                   clear tb
                   by_cases c178 : (gr == gs) = true
                   ·rw [if_pos c178] at H
                    have c178b0 : (gr == gs) = true := c178
                    (try (have c178b1 : decide (gr = gs) = true := by simpa using c178))
                    (try (have c178b2 : (gr == gs) = true := by simpa using c178))
                    clear c178
                    replace H := Option.bind_eq_some_iff.mp H
                    obtain ⟨uD, tc, H⟩ := H
                    (try dsimp only at H)
                    have uR := Aside0.mk tc
                    clear tc
                    by_cases c180 : uD = true
                    ·subst c180
                     rw [if_pos rfl] at H
                     by_cases c181 : (gt == gu) = true
                     ·rw [if_pos c181] at H
                      have c181b0 : (gt == gu) = true := c181
                      (try (have c181b1 : decide (gt = gu) = true := by simpa using c181))
                      (try (have c181b2 : (gt == gu) = true := by simpa using c181))
                      clear c181
                      obtain rfl := Option.some.inj H
                      as_aux_lemma =>
                       go_wp2_with (first | ((with_reducible refine gate_callee (f := 22) rfl ?_); refine gl_ 324 Tryd.func22 #[.slice A1 l1.length c1] ?_; (with_reducible refine (spec_DrawPlayedAt.calls bx _ _ l1 dM dN dO _ ?_ ?_ rn.out).mono ?_); exact (Z16 HR1); exact HC1.out; rintro e w182 ⟨uS, rfl, ho0, hb⟩; refine ⟨_, rfl, ?_⟩; refine k2_ (Kd.R_lower ho0 (below_size (Z1))) (below_step (Z1) hb) ?_; clear HB; intro av HB; (try clear hb ho0); obtain ⟨td, te, eo183⟩ := Kd.R_slice av.out; subst eo183) | ((with_reducible refine gate_callee (f := 14) rfl ?_); refine gl_ 332 Tryd.func14 #[.slice td dM.length te, .int .i64 dN, .int .i64 dO] ?_; (with_reducible refine (impl_PlayedAt.calls bx _ _ dM dN dO mv gr _ ?_ ?_ ro.out).mono ?_); exact (Z4 av); exact (Kd.R_reads' av.out).2.1; rintro e w184 ⟨uT, rfl, ho0, hb⟩; refine ⟨_, rfl, ?_⟩; refine k3_ (Ya_ av) (Kd.R_lower ho0 (below_size (Z1))) (below_step (Z1) hb) ?_; clear av HB; intro av aG HB; (try clear hb ho0)) | ((with_reducible refine gate_callee (f := 23) rfl ?_); refine gl_ 339 Tryd.func23 #[.slice td dM.length te, .int .i64 dN, .int .i64 dO] ?_; (with_reducible refine (spec_PlayedAt.calls bx _ _ dM dN dO mw gs _ ?_ ?_ rp.out).mono ?_); exact (Z4 av); exact (Kd.R_reads' av.out).2.1; rintro e w185 ⟨uU, rfl, ho0, hb⟩; refine ⟨_, rfl, ?_⟩; refine k4_ (Ya_ av) (Yb_ aG) (Kd.R_lower (Kd.R_new' ho0 (Yd_ aG)) (below_size (Z1))) (below_step (Z1) hb) ?_; clear av aG HB; intro av aG aN HB; (try clear hb ho0)) | ((with_reducible refine gate_callee (f := 24) rfl ?_); refine gl_ 343 Tryd.func24 #[.slice A1 l1.length c1] ?_; (with_reducible refine (spec_DrawPinsText.calls bx _ _ l1 cU _ ?_ ?_ rq.out).mono ?_); exact (Z16 HR1); exact HC1.out; rintro e w186 ⟨uV, rfl, ho0, hb⟩; refine ⟨_, rfl, ?_⟩; refine k5_ (Yb_ av) (Ya_ aG) (Ya_ aN) (Kd.R_lower (Kd.R_new' ho0 (Yd_ av)) (below_size (Z1))) (below_step (Z1) hb) ?_; clear av aG aN HB; intro av aG aN aT HB; (try clear hb ho0); obtain ⟨tf, tg, eo187⟩ := Kd.R_slice aT.out; subst eo187) | ((with_reducible refine gate_callee (f := 25) rfl ?_); refine gl_ 346 Tryd.func25 #[.slice tf cU.length tg] ?_; (with_reducible refine (impl_PinsText.calls bx _ _ cU rr gt _ ?side1 ?side2 rt.out ?sideT).mono ?_); (case sideT => exact tb_ HT.out (Z1)); (case side1 => exact Z4 aT); (case side2 => exact (Kd.R_reads' aT.out).2.1); rintro e w188 ⟨rfl, hb⟩; refine ⟨_, rfl, ?_⟩; refine k5_ (Ya_ av) (Ya_ aG) (Ya_ aN) (Ya_ aT) (below_step (Z1) hb) ?_; clear av aG aN aT HB; intro av aG aN aT HB; (try clear hb)) | ((with_reducible refine gate_callee (f := 26) rfl ?_); refine gl_ 351 Tryd.func26 #[.slice tf cU.length tg] ?_; (with_reducible refine (spec_PinsText.calls bx _ _ cU ru gu _ ?_ ?_ rv.out).mono ?_); exact (Z4 aT); exact (Kd.R_reads' aT.out).2.1; rintro e w189 ⟨rfl, hb⟩; refine ⟨_, rfl, ?_⟩; refine k5_ (Ya_ av) (Ya_ aG) (Ya_ aN) (Ya_ aT) (below_step (Z1) hb) ?_; clear av aG aN aT HB; intro av aG aN aT HB; (try clear hb); obtain ⟨Ao190, co190, eo190⟩ := Kd.R_slice aG.out; subst eo190; obtain ⟨Ao191, co191, eo191⟩ := Kd.R_slice aN.out; subst eo191) | (go_at_call 27; (with_reducible refine (laws_sameInts.calls bx _ _ mv _ _ mw true _ ?_ ?_ ?_ ?_ uR.out).mono ?_); exact (Z4 aG); exact (Kd.R_reads' aG.out).2.1; exact (Z4 aN); exact (Kd.R_reads' aN.out).2.1; rintro e w' ⟨rfl, ⟨nd, rfl⟩⟩))
                       go_ret
                       exact ⟨Z11, Z1⟩
                     rw [if_neg c181] at H
                     have c181b0 : (gt == gu) = false := by simpa using c181
                     (try (have c181b1 : decide (gt = gu) = false := by simpa using c181))
                     (try (have c181b2 : (gt == gu) = false := by simpa using c181))
                     (try (have c181b3 : ¬ (gt = gu) := by simpa using c181))
                     clear c181
                     obtain rfl := Option.some.inj H
                     as_aux_lemma =>
                      go_wp2_with (first | ((with_reducible refine gate_callee (f := 22) rfl ?_); refine gl_ 324 Tryd.func22 #[.slice A1 l1.length c1] ?_; (with_reducible refine (spec_DrawPlayedAt.calls bx _ _ l1 dM dN dO _ ?_ ?_ rn.out).mono ?_); exact (Z16 HR1); exact HC1.out; rintro e w192 ⟨uS, rfl, ho0, hb⟩; refine ⟨_, rfl, ?_⟩; refine k2_ (Kd.R_lower ho0 (below_size (Z1))) (below_step (Z1) hb) ?_; clear HB; intro av HB; (try clear hb ho0); obtain ⟨th, ti, eo193⟩ := Kd.R_slice av.out; subst eo193) | ((with_reducible refine gate_callee (f := 14) rfl ?_); refine gl_ 332 Tryd.func14 #[.slice th dM.length ti, .int .i64 dN, .int .i64 dO] ?_; (with_reducible refine (impl_PlayedAt.calls bx _ _ dM dN dO mv gr _ ?_ ?_ ro.out).mono ?_); exact (Z4 av); exact (Kd.R_reads' av.out).2.1; rintro e w194 ⟨uT, rfl, ho0, hb⟩; refine ⟨_, rfl, ?_⟩; refine k3_ (Ya_ av) (Kd.R_lower ho0 (below_size (Z1))) (below_step (Z1) hb) ?_; clear av HB; intro av aG HB; (try clear hb ho0)) | ((with_reducible refine gate_callee (f := 23) rfl ?_); refine gl_ 339 Tryd.func23 #[.slice th dM.length ti, .int .i64 dN, .int .i64 dO] ?_; (with_reducible refine (spec_PlayedAt.calls bx _ _ dM dN dO mw gs _ ?_ ?_ rp.out).mono ?_); exact (Z4 av); exact (Kd.R_reads' av.out).2.1; rintro e w195 ⟨uU, rfl, ho0, hb⟩; refine ⟨_, rfl, ?_⟩; refine k4_ (Ya_ av) (Yb_ aG) (Kd.R_lower (Kd.R_new' ho0 (Yd_ aG)) (below_size (Z1))) (below_step (Z1) hb) ?_; clear av aG HB; intro av aG aN HB; (try clear hb ho0)) | ((with_reducible refine gate_callee (f := 24) rfl ?_); refine gl_ 343 Tryd.func24 #[.slice A1 l1.length c1] ?_; (with_reducible refine (spec_DrawPinsText.calls bx _ _ l1 cU _ ?_ ?_ rq.out).mono ?_); exact (Z16 HR1); exact HC1.out; rintro e w196 ⟨uV, rfl, ho0, hb⟩; refine ⟨_, rfl, ?_⟩; refine k5_ (Yb_ av) (Ya_ aG) (Ya_ aN) (Kd.R_lower (Kd.R_new' ho0 (Yd_ av)) (below_size (Z1))) (below_step (Z1) hb) ?_; clear av aG aN HB; intro av aG aN aT HB; (try clear hb ho0); obtain ⟨tj, tk, eo197⟩ := Kd.R_slice aT.out; subst eo197) | ((with_reducible refine gate_callee (f := 25) rfl ?_); refine gl_ 346 Tryd.func25 #[.slice tj cU.length tk] ?_; (with_reducible refine (impl_PinsText.calls bx _ _ cU rr gt _ ?side1 ?side2 rt.out ?sideT).mono ?_); (case sideT => exact tb_ HT.out (Z1)); (case side1 => exact Z4 aT); (case side2 => exact (Kd.R_reads' aT.out).2.1); rintro e w198 ⟨rfl, hb⟩; refine ⟨_, rfl, ?_⟩; refine k5_ (Ya_ av) (Ya_ aG) (Ya_ aN) (Ya_ aT) (below_step (Z1) hb) ?_; clear av aG aN aT HB; intro av aG aN aT HB; (try clear hb)) | ((with_reducible refine gate_callee (f := 26) rfl ?_); refine gl_ 351 Tryd.func26 #[.slice tj cU.length tk] ?_; (with_reducible refine (spec_PinsText.calls bx _ _ cU ru gu _ ?_ ?_ rv.out).mono ?_); exact (Z4 aT); exact (Kd.R_reads' aT.out).2.1; rintro e w199 ⟨rfl, hb⟩; refine ⟨_, rfl, ?_⟩; refine k5_ (Ya_ av) (Ya_ aG) (Ya_ aN) (Ya_ aT) (below_step (Z1) hb) ?_; clear av aG aN aT HB; intro av aG aN aT HB; (try clear hb); obtain ⟨Ao200, co200, eo200⟩ := Kd.R_slice aG.out; subst eo200; obtain ⟨Ao201, co201, eo201⟩ := Kd.R_slice aN.out; subst eo201) | (go_at_call 27; (with_reducible refine (laws_sameInts.calls bx _ _ mv _ _ mw true _ ?_ ?_ ?_ ?_ uR.out).mono ?_); exact (Z4 aG); exact (Kd.R_reads' aG.out).2.1; exact (Z4 aN); exact (Kd.R_reads' aN.out).2.1; rintro e w' ⟨rfl, ⟨nd, rfl⟩⟩))
                      go_ret
                      exact ⟨Z11, Z1⟩
                    replace c180 := Bool.eq_false_iff.mpr c180
                    subst c180
                    rw [if_neg (show ¬ (false = true) by decide)] at H
                    obtain rfl := Option.some.inj H
                    as_aux_lemma =>
                     go_wp2_with (first | ((with_reducible refine gate_callee (f := 22) rfl ?_); refine gl_ 324 Tryd.func22 #[.slice A1 l1.length c1] ?_; (with_reducible refine (spec_DrawPlayedAt.calls bx _ _ l1 dM dN dO _ ?_ ?_ rn.out).mono ?_); exact (Z16 HR1); exact HC1.out; rintro e w202 ⟨uS, rfl, ho0, hb⟩; refine ⟨_, rfl, ?_⟩; refine k2_ (Kd.R_lower ho0 (below_size (Z1))) (below_step (Z1) hb) ?_; clear HB; intro av HB; (try clear hb ho0); obtain ⟨tl, tm, eo203⟩ := Kd.R_slice av.out; subst eo203) | ((with_reducible refine gate_callee (f := 14) rfl ?_); refine gl_ 332 Tryd.func14 #[.slice tl dM.length tm, .int .i64 dN, .int .i64 dO] ?_; (with_reducible refine (impl_PlayedAt.calls bx _ _ dM dN dO mv gr _ ?_ ?_ ro.out).mono ?_); exact (Z4 av); exact (Kd.R_reads' av.out).2.1; rintro e w204 ⟨uT, rfl, ho0, hb⟩; refine ⟨_, rfl, ?_⟩; refine k3_ (Ya_ av) (Kd.R_lower ho0 (below_size (Z1))) (below_step (Z1) hb) ?_; clear av HB; intro av aG HB; (try clear hb ho0)) | ((with_reducible refine gate_callee (f := 23) rfl ?_); refine gl_ 339 Tryd.func23 #[.slice tl dM.length tm, .int .i64 dN, .int .i64 dO] ?_; (with_reducible refine (spec_PlayedAt.calls bx _ _ dM dN dO mw gs _ ?_ ?_ rp.out).mono ?_); exact (Z4 av); exact (Kd.R_reads' av.out).2.1; rintro e w205 ⟨uU, rfl, ho0, hb⟩; refine ⟨_, rfl, ?_⟩; refine k4_ (Ya_ av) (Yb_ aG) (Kd.R_lower (Kd.R_new' ho0 (Yd_ aG)) (below_size (Z1))) (below_step (Z1) hb) ?_; clear av aG HB; intro av aG aN HB; (try clear hb ho0)) | ((with_reducible refine gate_callee (f := 24) rfl ?_); refine gl_ 343 Tryd.func24 #[.slice A1 l1.length c1] ?_; (with_reducible refine (spec_DrawPinsText.calls bx _ _ l1 cU _ ?_ ?_ rq.out).mono ?_); exact (Z16 HR1); exact HC1.out; rintro e w206 ⟨uV, rfl, ho0, hb⟩; refine ⟨_, rfl, ?_⟩; refine k5_ (Yb_ av) (Ya_ aG) (Ya_ aN) (Kd.R_lower (Kd.R_new' ho0 (Yd_ av)) (below_size (Z1))) (below_step (Z1) hb) ?_; clear av aG aN HB; intro av aG aN aT HB; (try clear hb ho0); obtain ⟨tn, tp, eo207⟩ := Kd.R_slice aT.out; subst eo207) | ((with_reducible refine gate_callee (f := 25) rfl ?_); refine gl_ 346 Tryd.func25 #[.slice tn cU.length tp] ?_; (with_reducible refine (impl_PinsText.calls bx _ _ cU rr gt _ ?side1 ?side2 rt.out ?sideT).mono ?_); (case sideT => exact tb_ HT.out (Z1)); (case side1 => exact Z4 aT); (case side2 => exact (Kd.R_reads' aT.out).2.1); rintro e w208 ⟨rfl, hb⟩; refine ⟨_, rfl, ?_⟩; refine k5_ (Ya_ av) (Ya_ aG) (Ya_ aN) (Ya_ aT) (below_step (Z1) hb) ?_; clear av aG aN aT HB; intro av aG aN aT HB; (try clear hb)) | ((with_reducible refine gate_callee (f := 26) rfl ?_); refine gl_ 351 Tryd.func26 #[.slice tn cU.length tp] ?_; (with_reducible refine (spec_PinsText.calls bx _ _ cU ru gu _ ?_ ?_ rv.out).mono ?_); exact (Z4 aT); exact (Kd.R_reads' aT.out).2.1; rintro e w209 ⟨rfl, hb⟩; refine ⟨_, rfl, ?_⟩; refine k5_ (Ya_ av) (Ya_ aG) (Ya_ aN) (Ya_ aT) (below_step (Z1) hb) ?_; clear av aG aN aT HB; intro av aG aN aT HB; (try clear hb); obtain ⟨Ao210, co210, eo210⟩ := Kd.R_slice aG.out; subst eo210; obtain ⟨Ao211, co211, eo211⟩ := Kd.R_slice aN.out; subst eo211) | (go_at_call 27; (with_reducible refine (laws_sameInts.calls bx _ _ mv _ _ mw false _ ?_ ?_ ?_ ?_ uR.out).mono ?_); exact (Z4 aG); exact (Kd.R_reads' aG.out).2.1; exact (Z4 aN); exact (Kd.R_reads' aN.out).2.1; rintro e w' ⟨rfl, ⟨nd, rfl⟩⟩))
                     go_ret
                     exact ⟨Z11, Z1⟩
                   rw [if_neg c178] at H
                   have c178b0 : (gr == gs) = false := by simpa using c178
                   (try (have c178b1 : decide (gr = gs) = false := by simpa using c178))
                   (try (have c178b2 : (gr == gs) = false := by simpa using c178))
                   (try (have c178b3 : ¬ (gr = gs) := by simpa using c178))
                   clear c178
                   obtain rfl := Option.some.inj H
                   as_aux_lemma =>
                    go_wp2_with (first | ((with_reducible refine gate_callee (f := 22) rfl ?_); refine gl_ 324 Tryd.func22 #[.slice A1 l1.length c1] ?_; (with_reducible refine (spec_DrawPlayedAt.calls bx _ _ l1 dM dN dO _ ?_ ?_ rn.out).mono ?_); exact (Z16 HR1); exact HC1.out; rintro e w212 ⟨uS, rfl, ho0, hb⟩; refine ⟨_, rfl, ?_⟩; refine k2_ (Kd.R_lower ho0 (below_size (Z1))) (below_step (Z1) hb) ?_; clear HB; intro av HB; (try clear hb ho0); obtain ⟨tq, tr, eo213⟩ := Kd.R_slice av.out; subst eo213) | ((with_reducible refine gate_callee (f := 14) rfl ?_); refine gl_ 332 Tryd.func14 #[.slice tq dM.length tr, .int .i64 dN, .int .i64 dO] ?_; (with_reducible refine (impl_PlayedAt.calls bx _ _ dM dN dO mv gr _ ?_ ?_ ro.out).mono ?_); exact (Z4 av); exact (Kd.R_reads' av.out).2.1; rintro e w214 ⟨uT, rfl, ho0, hb⟩; refine ⟨_, rfl, ?_⟩; refine k3_ (Ya_ av) (Kd.R_lower ho0 (below_size (Z1))) (below_step (Z1) hb) ?_; clear av HB; intro av aG HB; (try clear hb ho0)) | ((with_reducible refine gate_callee (f := 23) rfl ?_); refine gl_ 339 Tryd.func23 #[.slice tq dM.length tr, .int .i64 dN, .int .i64 dO] ?_; (with_reducible refine (spec_PlayedAt.calls bx _ _ dM dN dO mw gs _ ?_ ?_ rp.out).mono ?_); exact (Z4 av); exact (Kd.R_reads' av.out).2.1; rintro e w215 ⟨uU, rfl, ho0, hb⟩; refine ⟨_, rfl, ?_⟩; refine k4_ (Ya_ av) (Yb_ aG) (Kd.R_lower (Kd.R_new' ho0 (Yd_ aG)) (below_size (Z1))) (below_step (Z1) hb) ?_; clear av aG HB; intro av aG aN HB; (try clear hb ho0)) | ((with_reducible refine gate_callee (f := 24) rfl ?_); refine gl_ 343 Tryd.func24 #[.slice A1 l1.length c1] ?_; (with_reducible refine (spec_DrawPinsText.calls bx _ _ l1 cU _ ?_ ?_ rq.out).mono ?_); exact (Z16 HR1); exact HC1.out; rintro e w216 ⟨uV, rfl, ho0, hb⟩; refine ⟨_, rfl, ?_⟩; refine k5_ (Yb_ av) (Ya_ aG) (Ya_ aN) (Kd.R_lower (Kd.R_new' ho0 (Yd_ av)) (below_size (Z1))) (below_step (Z1) hb) ?_; clear av aG aN HB; intro av aG aN aT HB; (try clear hb ho0); obtain ⟨tt, tu, eo217⟩ := Kd.R_slice aT.out; subst eo217) | ((with_reducible refine gate_callee (f := 25) rfl ?_); refine gl_ 346 Tryd.func25 #[.slice tt cU.length tu] ?_; (with_reducible refine (impl_PinsText.calls bx _ _ cU rr gt _ ?side1 ?side2 rt.out ?sideT).mono ?_); (case sideT => exact tb_ HT.out (Z1)); (case side1 => exact Z4 aT); (case side2 => exact (Kd.R_reads' aT.out).2.1); rintro e w218 ⟨rfl, hb⟩; refine ⟨_, rfl, ?_⟩; refine k5_ (Ya_ av) (Ya_ aG) (Ya_ aN) (Ya_ aT) (below_step (Z1) hb) ?_; clear av aG aN aT HB; intro av aG aN aT HB; (try clear hb)) | ((with_reducible refine gate_callee (f := 26) rfl ?_); refine gl_ 351 Tryd.func26 #[.slice tt cU.length tu] ?_; (with_reducible refine (spec_PinsText.calls bx _ _ cU ru gu _ ?_ ?_ rv.out).mono ?_); exact (Z4 aT); exact (Kd.R_reads' aT.out).2.1; rintro e w219 ⟨rfl, hb⟩; refine ⟨_, rfl, ?_⟩; refine k5_ (Ya_ av) (Ya_ aG) (Ya_ aN) (Ya_ aT) (below_step (Z1) hb) ?_; clear av aG aN aT HB; intro av aG aN aT HB; (try clear hb)))
                    go_ret
                    exact ⟨Z11, Z1⟩

/-- THE ONE PURE STATEMENT of laws_FnPins: yours. -/
theorem laws_FnPins.walk (P : laws_FnPins.Pure) (a0 : Option Addr) (len0 cap0 : Nat) (z0 : List Int) (a1 : Option Addr) (len1 cap1 : Nat) (z1 : List Int) (w : World) (w0 : (a0 = none ∧ len0 = 0 ∧ cap0 = 0 ∧ z0 = []) ∨ ∃ x, a0 = some x ∧ len0 ≤ cap0 ∧ cap0 ≤ maxLen ∧ z0.length = cap0 ∧ (∀ i, i < z0.length → w.cell? (x.add i) = some (.int .u8 (z0.getD i 0))) ∧ ∀ n ∈ z0, (Lit.int .u8 n).wf = true) (y0 : len0 * 1 ≤ 140737488351232) (w1 : (a1 = none ∧ len1 = 0 ∧ cap1 = 0 ∧ z1 = []) ∨ ∃ x, a1 = some x ∧ len1 ≤ cap1 ∧ cap1 ≤ maxLen ∧ z1.length = cap1 ∧ (∀ i, i < z1.length → w.cell? (x.add i) = some (.int .u8 (z1.getD i 0))) ∧ ∀ n ∈ z1, (Lit.int .u8 n).wf = true) (y1 : len1 * 1 ≤ 140737488351232) (hT : Go.Lib.TabIs Tryd.prog w "internal/strconv.uint64pow10" .u64 Go.Lib.pow10Tab) :
  Calls Tryd.prog 3 #[.slice a0 len0 cap0, .slice a1 len1 cap1] w fun e w' => e = .returned (.bool true) ∧ Below w.heap.size w w' := by
 obtain ⟨l0, rfl, hr0, hm0, hw0, hc0⟩ := ReadsInt.ofRowC w0
 obtain ⟨l1, rfl, hr1, hm1, hw1, hc1⟩ := ReadsInt.ofRowC w1
 obtain ⟨k, h⟩ := P l0 l1 hm0 y0 hw0 hm1 y1 hw1
 refine (laws_FnPins.calls k _ _ l0 _ _ l1 true w (Kd.C_of_reads (d := (0 : Int)) (h1 := fun _ => rfl) hr0) hc0 (Kd.C_of_reads (d := (0 : Int)) (h1 := fun _ => rfl) hr1) hc1 h hT).mono ?_
 rintro e w' ⟨rfl, hd⟩
 exact ⟨rfl, hd⟩

end Go.Proofs.YtdipcpcbclobpaaDoor.PFnPins
