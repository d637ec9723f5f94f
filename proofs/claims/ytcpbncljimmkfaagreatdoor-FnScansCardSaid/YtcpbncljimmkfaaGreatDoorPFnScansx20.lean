-- written by a program of this session: the kit's print, with outer functions of the session's own (wip/ext)
import Derived.Test.YtcpbncljimmkfaaGreatDoorPFnScansx0
import Derived.Test.YtcpbncljimmkfaaGreatDoorPFnScansx2
import Derived.Test.YtcpbncljimmkfaaGreatDoorPFnScansx6
import Derived.Test.YtcpbncljimmkfaaGreatDoorPFnScansx8
import Derived.Test.YtcpbncljimmkfaaGreatDoorPFnScansx9
import Derived.Test.YtcpbncljimmkfaaGreatDoorPFnScansx10
import Derived.Test.YtcpbncljimmkfaaGreatDoorPFnScansx11
import Derived.Test.YtcpbncljimmkfaaGreatDoorPFnScansx13
import Derived.Test.YtcpbncljimmkfaaGreatDoorPFnScansx15
import Derived.Test.YtcpbncljimmkfaaGreatDoorPFnScansx16
import Derived.Test.YtcpbncljimmkfaaGreatDoorPFnScansx17
import Derived.Test.YtcpbncljimmkfaaGreatDoorPFnScansx18
import Derived.Test.YtcpbncljimmkfaaGreatDoorPFnScansx19
namespace Go.Proofs.YtcpbncljimmkfaaGreatDoor.PFnScans
open Go.RowKit Go.Proofs.YtcpbncljimmkfaaGreatDoorW.PrintWords Go.Proofs.YtcpbncljimmkfaaGreatDoorW.PrintLast Go.Proofs.YtcpbncljimmkfaaGreatDoorW.PrintMore
attribute [local go_sem] max2_int min2_int max_two min_two max_three min_three max_four min_four   -- for this text's walks alone
set_option linter.unusedVariables false
set_option linter.unusedSimpArgs false
theorem ex_32 {α : Type} {p : α → α → α → α → α → α → α → α → α → α → α → α → α → α → α → α → α → α → α → α → α → α → α → α → α → α → α → α → α → α → α → α → Prop} (a0 a1 a2 a3 a4 a5 a6 a7 a8 a9 a10 a11 a12 a13 a14 a15 a16 a17 a18 a19 a20 a21 a22 a23 a24 a25 a26 a27 a28 a29 a30 a31 : α) (h : p a0 a1 a2 a3 a4 a5 a6 a7 a8 a9 a10 a11 a12 a13 a14 a15 a16 a17 a18 a19 a20 a21 a22 a23 a24 a25 a26 a27 a28 a29 a30 a31) : ∃ a0 a1 a2 a3 a4 a5 a6 a7 a8 a9 a10 a11 a12 a13 a14 a15 a16 a17 a18 a19 a20 a21 a22 a23 a24 a25 a26 a27 a28 a29 a30 a31, p a0 a1 a2 a3 a4 a5 a6 a7 a8 a9 a10 a11 a12 a13 a14 a15 a16 a17 a18 a19 a20 a21 a22 a23 a24 a25 a26 a27 a28 a29 a30 a31 := ⟨a0, a1, a2, a3, a4, a5, a6, a7, a8, a9, a10, a11, a12, a13, a14, a15, a16, a17, a18, a19, a20, a21, a22, a23, a24, a25, a26, a27, a28, a29, a30, a31, h⟩
theorem ex_8 {α : Type} {p : α → α → α → α → α → α → α → α → Prop} (a0 a1 a2 a3 a4 a5 a6 a7 : α) (h : p a0 a1 a2 a3 a4 a5 a6 a7) : ∃ a0 a1 a2 a3 a4 a5 a6 a7, p a0 a1 a2 a3 a4 a5 a6 a7 := ⟨a0, a1, a2, a3, a4, a5, a6, a7, h⟩
set_option maxHeartbeats 8000000 in
set_option maxRecDepth 100000 in
theorem laws_FnScans.calls (k : Nat) (A0 : Option Addr) (c0 : Nat) (l0 : List Int) (A1 : Option Addr) (c1 : Nat) (l1 : List Int) (r : Bool) (w : World) (hr0 : Kd.C (Kd.int .u8) w A0 l0.length l0) (hc0 : l0.length ≤ c0) (hr1 : Kd.C (Kd.int .u8) w A1 l1.length l1) (hc1 : l1.length ≤ c1) (h : laws_FnScans.f k l0 l1 = some r) :
  Calls Tryz.prog 3 #[.slice A0 l0.length c0, .slice A1 l1.length c1] w fun e w' => e = .returned (.bool r) ∧ Below w.heap.size w w' := by
 have HR0 := Aside0.mk hr0
 have HC0 := Aside0.mk hc0
 clear hr0 hc0
 have HR1 := Aside0.mk hr1
 have HC1 := Aside0.mk hc1
 clear hr1 hc1
 have HB := Aside0.mk (Below.refl w.heap.size w)
 have H : ((laws_big.f l0 l1).bind fun sM => (if sM = true then (some true) else ((spec_DrawScanOf.f k l0).bind fun ca => ((impl_ScanOf.f k ca.1 ca.2.1 ca.2.2).bind fun ef => ((spec_ScanOf.f k ca.1 ca.2.1 ca.2.2).bind fun gw => (if (ef.2 != gw.2) = true then (laws_FnScans.j0 k l1 ca.1 ca.2.1 ca.2.2 ef.1 ef.2 gw.1 true) else ((laws_pSameTexts.f k ef.1 gw.1).bind fun m5 => (laws_FnScans.j0 k l1 ca.1 ca.2.1 ca.2.2 ef.1 ef.2 gw.1 (!m5))))))))) = some r := h
 clear h
 obtain ⟨sM, A3, H⟩ := bd_ H
 (try dsimp only at H)
 by_cases c4 : sM = true
 ·subst c4
  rw [if_pos rfl] at H
  obtain rfl := Option.some.inj H
  go_enter Tryz.func3, Tryz.ntmps3
  as_aux_lemma =>
   go_wp2_with (go_at_call 4; (with_reducible refine (laws_big.calls _ _ l0 _ _ l1 true _ ?_ ?_ ?_ ?_ A3.out).mono ?_); exact (Z10 HR0); exact HC0.out; exact (Z10 HR1); exact HC1.out; rintro e w' ⟨rfl, ⟨nd, rfl⟩⟩; (try first | exact ⟨rfl, _, World.drewN_drewN _ _ _⟩ | exact ⟨rfl, _, Eq.trans (World.drewN_drewN _ _ _) (congrArg (World.drewN _) (Nat.add_assoc _ _ _))⟩))
   repeat (go_quiet (fail); try go_wp2_with (fail))
   go_ret
   exact ⟨Z9, Z2⟩
 replace c4 := Bool.eq_false_iff.mpr c4
 subst c4
 rw [if_neg (show ¬ (false = true) by decide)] at H
 obtain ⟨⟨cF, eX, f6⟩, A5, H⟩ := bd_ H
 (try dsimp only at H)
 obtain ⟨⟨gy, gR⟩, A6, H⟩ := bd_ H
 (try dsimp only at H)
 obtain ⟨⟨bE, jk⟩, A7, H⟩ := bd_ H
 (try dsimp only at H)
 have HC8 := Aside0.mk H
 clear H
 go_enter Tryz.func3, Tryz.ntmps3
 go_upto_region 6 with (first | (go_at_call 4; (with_reducible refine (laws_big.calls _ _ l0 _ _ l1 false _ ?_ ?_ ?_ ?_ A3.out).mono ?_); exact (Z10 HR0); exact HC0.out; exact (Z10 HR1); exact HC1.out; rintro e w' ⟨rfl, ⟨nd, rfl⟩⟩; (try first | exact ⟨rfl, _, World.drewN_drewN _ _ _⟩ | exact ⟨rfl, _, Eq.trans (World.drewN_drewN _ _ _) (congrArg (World.drewN _) (Nat.add_assoc _ _ _))⟩)) | (go_at_call 5; (with_reducible refine (spec_DrawScanOf.calls k _ _ l0 cF eX f6 _ ?_ ?_ A5.out).mono ?_); exact (Z10 HR0); exact HC0.out; rintro e w9 ⟨Bk, rfl, ho0, hb⟩; refine k2_ (Kd.R_lower ho0 (below_size (Z2))) (below_step (Z2) hb) ?_; clear HB; intro bv HB; (try clear hb ho0); obtain ⟨lN, hY, jT⟩ := Kd.R_slice bv.out; subst jT) | (go_at_call 6; (with_reducible refine (impl_ScanOf.calls k _ _ cF eX f6 gy gR _ ?_ ?_ A6.out).mono ?_); exact (Z1 bv); exact (Kd.R_reads' bv.out).2.1; rintro e g3 ⟨uM, rfl, ho0, hb⟩; refine k3_ (Ya_ bv) (Kd.R_lower ho0 (below_size (Z2))) (below_step (Z2) hb) ?_; clear bv HB; intro bv cn HB; (try clear hb ho0)) | (go_at_call 7; (with_reducible refine (spec_ScanOf.calls k _ _ cF eX f6 bE jk _ ?_ ?_ A7.out).mono ?_); exact (Z1 bv); exact (Kd.R_reads' bv.out).2.1; rintro e uc ⟨sU, rfl, ho0, hb⟩; refine k4_ (Ya_ bv) (Yb_ cn) (Kd.R_lower (Kd.R_new' ho0 (Yd_ cn)) (below_size (Z2))) (below_step (Z2) hb) ?_; clear bv cn HB; intro bv cn fg HB; (try clear hb ho0)))
 repeat (go_quiet (fail); go_upto_region 6 with (fail))
 (try simp only [Act.put, List.setIfInBounds_toArray, List.set_cons_zero, List.set_cons_succ])
 go_cut [78] (fun v78 wc => ∃ (kq : Nat) (qg : Bool), v78 = .bool qg ∧ Aside0 (laws_FnScans.j0 kq l1 cF eX f6 gy gR bE qg = some r) ∧ Aside0 (kq ≤ k) ∧ Aside0 (Kd.R k55 55 wc w.heap.size (fun _ => True) (.slice lN cF.length hY) cF) ∧ Aside0 (Kd.R Kd.string 9 wc w.heap.size (fun k_ => some k_ ≠ (sU : Value).ownBlock) uM gy) ∧ Aside0 (Kd.R Kd.string 9 wc w.heap.size (fun k_ => some k_ ≠ (uM : Value).ownBlock) sU bE) ∧ Aside0 (Below w.heap.size w wc))
 case first =>
  as_aux_lemma =>
   have H := HC8.out
   clear HC8
   by_cases c13 : (gR != jk) = true
   ·rw [if_pos c13] at H
    have cq : (gR != jk) = true := c13
    (try (have mI : decide (gR = jk) = false := by simpa using c13))
    (try (have ws : (gR == jk) = false := by simpa using c13))
    (try (have c13b3 : ¬ (gR = jk) := by simpa using c13))
    clear c13
    (first | rw [cq] | (simp only [i64_w, i32_w]; rw [cq]) | skip)
    have H' := Aside0.mk H
    clear H
    as_aux_lemma =>
     go_wp2
     repeat (go_quiet (fail); try go_wp2)
     (refine Met.intro ?_; go_step; (repeat (first | apply ex_32 | apply ex_8 | apply Exists.intro)); refine ⟨?rel, rfl⟩)
     case rel => exact ⟨_, (true), (Z11), H', ⟨Z69⟩, ⟨Z3 bv⟩, ⟨Z68 cn⟩, ⟨Z68 fg⟩, ⟨Z2⟩⟩
   rw [if_neg c13] at H
   have cq : (gR != jk) = false := by simpa using c13
   (try (have mI : decide (gR = jk) = true := by simpa using c13))
   (try (have ws : (gR == jk) = true := by simpa using c13))
   clear c13
   (first | rw [cq] | (simp only [i64_w, i32_w]; rw [cq]) | skip)
   obtain ⟨m5, lu, H⟩ := bd_ H
   (try dsimp only at H)
   have H' := Aside0.mk H
   clear H
   obtain ⟨qU, pj, jl⟩ := Kd.R_slice cn.out
   subst jl
   obtain ⟨yU, f7, qV⟩ := Kd.R_slice fg.out
   subst qV
   as_aux_lemma =>
    go_wp2_with (go_at_call 8; (with_reducible refine (laws_pSameTexts.calls k _ _ gy _ _ bE m5 _ ?_ ?_ ?_ ?_ lu.out).mono ?_); exact (Z1 cn); exact (Kd.R_reads' cn.out).2.1; exact (Z1 fg); exact (Kd.R_reads' fg.out).2.1; rintro e w' ⟨rfl, ⟨nd, rfl⟩⟩; (try first | exact ⟨rfl, _, World.drewN_drewN _ _ _⟩ | exact ⟨rfl, _, Eq.trans (World.drewN_drewN _ _ _) (congrArg (World.drewN _) (Nat.add_assoc _ _ _))⟩))
    repeat (go_quiet (fail); try go_wp2_with (fail))
    (refine Met.intro ?_; go_step; (repeat (first | apply ex_32 | apply ex_8 | apply Exists.intro)); refine ⟨?rel, rfl⟩)
    case rel => exact ⟨_, (!m5), (Z11), H', ⟨Z69⟩, ⟨Z3 bv⟩, ⟨Z68 cn⟩, ⟨Z68 fg⟩, ⟨Z2⟩⟩
 case rest =>
  as_aux_lemma =>
   clear HC8
   (try clear c1); (try clear c4)
   obtain ⟨kq, qg, rfl, HA, oL, ai, gS, gz, HB⟩ := hcut
   cases kq with
   | zero => exact absurd HA.out (by simp [laws_FnScans.j0])
   | succ wt =>
    have H := HA.out
    clear HA
    simp only [laws_FnScans.j0] at H
    by_cases c17 : qg = true
    ·subst c17
     rw [if_pos rfl] at H
     obtain rfl := Option.some.inj H
     as_aux_lemma =>
      go_wp2
      repeat (go_quiet (fail); try go_wp2)
      go_ret
      exact ⟨Z9, Z2⟩
    replace c17 := Bool.eq_false_iff.mpr c17
    subst c17
    rw [if_neg (show ¬ (false = true) by decide)] at H
    have HC18 := Aside0.mk H
    clear H
    go_upto_if 79 with (fail)
    repeat (go_quiet (fail); go_upto_if 79 with (fail))
    go_cut [] (fun wc => ∃ (kq : Nat), Aside0 (laws_FnScans.j5 kq l1 = some r) ∧ Aside0 (kq ≤ wt) ∧ Aside0 (Below w.heap.size w wc))
    case first =>
     as_aux_lemma =>
      have H := HC18.out
      clear HC18
      by_cases c19 : gR = true
      ·subst c19
       rw [if_pos rfl] at H
       obtain ⟨⟨m8, uN⟩, cj, H⟩ := bd_ H
       (try dsimp only at H)
       have HC21 := Aside0.mk H
       clear H
       obtain ⟨yL, o1, iT⟩ := Kd.R_slice gS.out
       subst iT
       go_upto_region 10 with (go_at_call 9; (with_reducible refine (impl_CountStains.calls wt _ _ gy m8 uN _ ?_ ?_ cj.out).mono ?_); exact (Z1 gS); exact (Kd.R_reads' gS.out).2.1; rintro e w' ⟨rfl, ⟨nd, rfl⟩⟩; (try first | exact ⟨rfl, _, World.drewN_drewN _ _ _⟩ | exact ⟨rfl, _, Eq.trans (World.drewN_drewN _ _ _) (congrArg (World.drewN _) (Nat.add_assoc _ _ _))⟩))
       repeat (go_quiet (fail); go_upto_region 10 with (fail))
       (try simp only [Act.put, List.setIfInBounds_toArray, List.set_cons_zero, List.set_cons_succ])
       go_cut [101] (fun v101 wc => ∃ (kq : Nat) (ip : Bool), v101 = .bool ip ∧ Aside0 (laws_FnScans.j1 kq l1 cF eX bE ip = some r) ∧ Aside0 (kq ≤ wt) ∧ Aside0 (Kd.R k55 55 wc w.heap.size (fun _ => True) (.slice lN cF.length hY) cF) ∧ Aside0 (Kd.R Kd.string 9 wc w.heap.size (fun _ => True) sU bE) ∧ Aside0 (Below w.heap.size w wc))
       case first =>
        as_aux_lemma =>
         have H := HC21.out
         clear HC21
         by_cases c23 : uN = true
         ·subst c23
          rw [if_pos rfl] at H
          by_cases c24 : m8 = 0
          ·rw [if_pos c24] at H
           have g8 : (m8 == 0) = true := beq_iff_eq.mpr c24
           have qh : (m8 != 0) = false := bne_eq_false_iff_eq.mpr c24
           clear c24
           (first | rw [g8] | (simp only [i64_w, i32_w]; rw [g8]) | skip)
           by_cases c25 : (bE.length : Int) = f6
           ·rw [if_pos c25] at H
            have ld : ((bE.length : Int) == f6) = true := beq_iff_eq.mpr c25
            have qi : ((bE.length : Int) != f6) = false := bne_eq_false_iff_eq.mpr c25
            clear c25
            obtain ⟨qQ, CH, H⟩ := bd_ H
            (try dsimp only at H)
            have H' := Aside0.mk H
            clear H
            obtain ⟨Bm, Bn, yV⟩ := Kd.R_slice gz.out
            subst yV
            as_aux_lemma =>
             go_wp2_with (go_at_call 10; (with_reducible refine (impl_IsScan.calls wt _ _ gy qQ _ ?_ ?_ CH.out).mono ?_); exact (Z1 gS); exact (Kd.R_reads' gS.out).2.1; rintro e w' ⟨rfl, ⟨nd, rfl⟩⟩; (try first | exact ⟨rfl, _, World.drewN_drewN _ _ _⟩ | exact ⟨rfl, _, Eq.trans (World.drewN_drewN _ _ _) (congrArg (World.drewN _) (Nat.add_assoc _ _ _))⟩))
             repeat (go_quiet (fail); try go_wp2_with (fail))
             (refine Met.intro ?_; go_step; (repeat (first | apply ex_32 | apply ex_8 | apply Exists.intro)); refine ⟨?rel, rfl⟩)
             case rel => exact ⟨_, (!qQ), (Z11), H', ⟨Z60 oL⟩, ⟨Z3 ai⟩, ⟨Z25 gz⟩, ⟨Z2⟩⟩
           rw [if_neg c25] at H
           have ld : ((bE.length : Int) == f6) = false := beq_eq_false_iff_ne.mpr c25
           have qi : ((bE.length : Int) != f6) = true := bne_iff_ne.mpr c25
           have H' := Aside0.mk H
           clear H
           obtain ⟨xU, xV, xW⟩ := Kd.R_slice gz.out
           subst xW
           as_aux_lemma =>
            go_wp2
            repeat (go_quiet (fail); try go_wp2)
            (refine Met.intro ?_; go_step; (repeat (first | apply ex_32 | apply ex_8 | apply Exists.intro)); refine ⟨?rel, rfl⟩)
            case rel => exact ⟨_, (true), (Z11), H', ⟨Z60 oL⟩, ⟨Z3 ai⟩, ⟨Z25 gz⟩, ⟨Z2⟩⟩
          rw [if_neg c24] at H
          have g8 : (m8 == 0) = false := beq_eq_false_iff_ne.mpr c24
          have qh : (m8 != 0) = true := bne_iff_ne.mpr c24
          (first | rw [g8] | (simp only [i64_w, i32_w]; rw [g8]) | skip)
          have H' := Aside0.mk H
          clear H
          as_aux_lemma =>
           go_wp2
           repeat (go_quiet (fail); try go_wp2)
           (refine Met.intro ?_; go_step; (repeat (first | apply ex_32 | apply ex_8 | apply Exists.intro)); refine ⟨?rel, rfl⟩)
           case rel => exact ⟨_, (true), (Z11), H', ⟨Z60 oL⟩, ⟨Z3 ai⟩, ⟨Z25 gz⟩, ⟨Z2⟩⟩
         replace c23 := Bool.eq_false_iff.mpr c23
         subst c23
         rw [if_neg (show ¬ (false = true) by decide)] at H
         have H' := Aside0.mk H
         clear H
         as_aux_lemma =>
          go_wp2
          repeat (go_quiet (fail); try go_wp2)
          (refine Met.intro ?_; go_step; (repeat (first | apply ex_32 | apply ex_8 | apply Exists.intro)); refine ⟨?rel, rfl⟩)
          case rel => exact ⟨_, (true), (Z11), H', ⟨Z60 oL⟩, ⟨Z3 ai⟩, ⟨Z25 gz⟩, ⟨Z2⟩⟩
       case rest =>
        as_aux_lemma =>
         clear HC21
         (try clear c17); (try clear c19)
         obtain ⟨kq, ip, rfl, HA, rD, ai, gz, HB⟩ := hcut
         cases kq with
         | zero => exact absurd HA.out (by simp [laws_FnScans.j1])
         | succ Bo =>
          have H := HA.out
          clear HA
          simp only [laws_FnScans.j1] at H
          by_cases c29 : ip = true
          ·subst c29
           rw [if_pos rfl] at H
           obtain rfl := Option.some.inj H
           as_aux_lemma =>
            go_wp2
            repeat (go_quiet (fail); try go_wp2)
            go_ret
            exact ⟨Z9, Z2⟩
          replace c29 := Bool.eq_false_iff.mpr c29
          subst c29
          rw [if_neg (show ¬ (false = true) by decide)] at H
          have H' := Aside0.mk H
          clear H
          obtain ⟨Ao30, yW, eo30⟩ := Kd.R_slice gz.out
          subst eo30
          go_wp2
          repeat (go_quiet (fail); try go_wp2)
          go_loopg [104] Bo (fun kq v104 w' => ∃ (aN : Int), v104 = .int .i64 aN ∧ Aside0 (laws_FnScans.l0 kq l1 cF eX bE (bE.length : Int) aN = some r) ∧ Aside0 (kq ≤ Bo) ∧ Aside0 (Kd.R k55 55 w' w.heap.size (fun _ => True) (.slice lN cF.length hY) cF) ∧ Aside0 (Kd.R Kd.string 9 w' w.heap.size (fun _ => True) (.slice Ao30 bE.length yW) bE) ∧ Aside0 (Below w.heap.size w w'))
          case atStart => exact ⟨(0), (Z11), H', ⟨Nat.le_refl _⟩, ⟨Z3 ai⟩, ⟨Z3 gz⟩, ⟨Z2⟩⟩
          case round =>
           as_aux_lemma =>
            clear H'
            (try clear c29)
            obtain ⟨aN, rfl, HA, HK3, ai, bs, HB⟩ := hrel
            cases gk with
            | zero => exact absurd HA.out (by simp [laws_FnScans.l0])
            | succ k3 =>
             have H := HA.out
             clear HA
             simp only [laws_FnScans.l0] at H
             by_cases c31 : aN < (bE.length : Int)
             ·rw [if_pos c31] at H
              have lb : decide (aN < (bE.length : Int)) = true := decide_eq_true c31
              clear c31
              by_cases c32 : 0 ≤ aN
              case neg => rw [if_neg c32] at H; exact absurd H (by simp)
              rw [if_pos c32] at H
              have m9 : decide (0 ≤ aN) = true := decide_eq_true c32
              clear c32
              by_cases c33 : aN < (bE.length : Int)
              case neg => rw [if_neg c33] at H; exact absurd H (by simp)
              rw [if_pos c33] at H
              have iO : decide (aN < (bE.length : Int)) = true := decide_eq_true c33
              clear c33
              obtain ⟨⟨lO, uO⟩, Bb, H⟩ := bd_ H
              (try dsimp only at H)
              obtain ⟨⟨ew, uP⟩, CI, H⟩ := bd_ H
              (try dsimp only at H)
              have HC36 := Aside0.mk H
              clear H
              have sV : 0 ≤ (aN : Int) := of_decide_eq_true (Z8)
              have sW : aN < (bE.length : Int) := of_decide_eq_true (Z8)
              obtain ⟨wu, e661, qj⟩ := Kd.at_string (Kd.R_reads' bs.out).2.2 aN sV sW
              cases e661
              replace sV := eq_true sV
              replace sW := eq_true sW
              go_upto_region 17 with (first | (go_at_call 11; (with_reducible refine (impl_OpenTracks.calls k3 _ _ cF aN lO uO _ ?_ ?_ Bb.out).mono ?_); exact (Z1 ai); exact (Kd.R_reads' ai.out).2.1; rintro e vS ⟨Bq, rfl, ho0, hb⟩; refine k4_ (Ya_ ai) (Ya_ bs) (Kd.R_lower ho0 (below_size (Z2))) (below_step (Z2) hb) ?_; clear ai bs HB; intro ai bs bU HB; (try clear hb ho0)) | (go_at_call 12; (with_reducible refine (spec_OpenTracks.calls k3 _ _ cF aN ew uP _ ?_ ?_ CI.out).mono ?_); exact (Z1 ai); exact (Kd.R_reads' ai.out).2.1; rintro e ru ⟨uQ, rfl, ho0, hb⟩; refine k5_ (Ya_ ai) (Ya_ bs) (Yb_ bU) (Kd.R_lower (Kd.R_new' ho0 (Yd_ bU)) (below_size (Z2))) (below_step (Z2) hb) ?_; clear ai bs bU HB; intro ai bs bU cE HB; (try clear hb ho0)))
              repeat (go_quiet (fail); go_upto_region 17 with (fail))
              (try simp only [Act.put, List.setIfInBounds_toArray, List.set_cons_zero, List.set_cons_succ])
              go_cut [138] (fun v138 wc => ∃ (kq : Nat) (iq : Bool), v138 = .bool iq ∧ Aside0 (laws_FnScans.j3 kq l1 cF eX (rdOf ByteArray.empty bE aN) ew bE (bE.length : Int) aN iq = some r) ∧ Aside0 (kq ≤ k3) ∧ Aside0 (Kd.R k55 55 wc w.heap.size (fun _ => True) (.slice lN cF.length hY) cF) ∧ Aside0 (Kd.R (Kd.int .i64) 3 wc w.heap.size (fun _ => True) uQ ew) ∧ Aside0 (Kd.R Kd.string 9 wc w.heap.size (fun _ => True) (.slice (some wu) bE.length yW) bE) ∧ Aside0 (Below w.heap.size w wc))
              case first =>
               as_aux_lemma =>
                have H := HC36.out
                clear HC36
                by_cases c39 : uO = true
                ·subst c39
                 rw [if_pos rfl] at H
                 by_cases c40 : uP = true
                 ·subst c40
                  rw [if_pos rfl] at H
                  obtain ⟨yR, qD, H⟩ := bd_ H
                  (try dsimp only at H)
                  by_cases c42 : yR = true
                  ·subst c42
                   rw [if_pos rfl] at H
                   have H' := Aside0.mk H
                   clear H
                   obtain ⟨Ao43, co43, eo43⟩ := Kd.R_slice bU.out
                   subst eo43
                   obtain ⟨Br, Bs, yX⟩ := Kd.R_slice cE.out
                   subst yX
                   as_aux_lemma =>
                    go_wp2_with (go_at_call 13; (with_reducible refine (laws_sameInts.calls k3 _ _ lO _ _ ew true _ ?_ ?_ ?_ ?_ qD.out).mono ?_); exact (Z1 bU); exact (Kd.R_reads' bU.out).2.1; exact (Z1 cE); exact (Kd.R_reads' cE.out).2.1; rintro e w' ⟨rfl, ⟨nd, rfl⟩⟩; (try first | exact ⟨rfl, _, World.drewN_drewN _ _ _⟩ | exact ⟨rfl, _, Eq.trans (World.drewN_drewN _ _ _) (congrArg (World.drewN _) (Nat.add_assoc _ _ _))⟩))
                    repeat (go_quiet (fail); try go_wp2_with (fail))
                    (refine Met.intro ?_; go_step; (repeat (first | apply ex_32 | apply ex_8 | apply Exists.intro)); refine ⟨?rel, rfl⟩)
                    case rel => exact ⟨_, ((((rdOf ByteArray.empty bE aN).size : Int) != eX)), (Z11), H', ⟨Z86⟩, ⟨Z3 ai⟩, ⟨Z25 cE⟩, ⟨Z3 bs⟩, ⟨Z2⟩⟩
                  replace c42 := Bool.eq_false_iff.mpr c42
                  subst c42
                  rw [if_neg (show ¬ (false = true) by decide)] at H
                  have H' := Aside0.mk H
                  clear H
                  obtain ⟨Ao45, co45, eo45⟩ := Kd.R_slice bU.out
                  subst eo45
                  obtain ⟨Ao46, co46, yY⟩ := Kd.R_slice cE.out
                  subst yY
                  as_aux_lemma =>
                   go_wp2_with (go_at_call 13; (with_reducible refine (laws_sameInts.calls k3 _ _ lO _ _ ew false _ ?_ ?_ ?_ ?_ qD.out).mono ?_); exact (Z1 bU); exact (Kd.R_reads' bU.out).2.1; exact (Z1 cE); exact (Kd.R_reads' cE.out).2.1; rintro e w' ⟨rfl, ⟨nd, rfl⟩⟩; (try first | exact ⟨rfl, _, World.drewN_drewN _ _ _⟩ | exact ⟨rfl, _, Eq.trans (World.drewN_drewN _ _ _) (congrArg (World.drewN _) (Nat.add_assoc _ _ _))⟩))
                   repeat (go_quiet (fail); try go_wp2_with (fail))
                   (refine Met.intro ?_; go_step; (repeat (first | apply ex_32 | apply ex_8 | apply Exists.intro)); refine ⟨?rel, rfl⟩)
                   case rel => exact ⟨_, (true), (Z11), H', ⟨Z86⟩, ⟨Z3 ai⟩, ⟨Z25 cE⟩, ⟨Z3 bs⟩, ⟨Z2⟩⟩
                 replace c40 := Bool.eq_false_iff.mpr c40
                 subst c40
                 rw [if_neg (show ¬ (false = true) by decide)] at H
                 have H' := Aside0.mk H
                 clear H
                 as_aux_lemma =>
                  go_wp2
                  repeat (go_quiet (fail); try go_wp2)
                  (refine Met.intro ?_; go_step; (repeat (first | apply ex_32 | apply ex_8 | apply Exists.intro)); refine ⟨?rel, rfl⟩)
                  case rel => exact ⟨_, (true), (Z11), H', ⟨Z86⟩, ⟨Z3 ai⟩, ⟨Z25 cE⟩, ⟨Z3 bs⟩, ⟨Z2⟩⟩
                replace c39 := Bool.eq_false_iff.mpr c39
                subst c39
                rw [if_neg (show ¬ (false = true) by decide)] at H
                have H' := Aside0.mk H
                clear H
                as_aux_lemma =>
                 go_wp2
                 repeat (go_quiet (fail); try go_wp2)
                 (refine Met.intro ?_; go_step; (repeat (first | apply ex_32 | apply ex_8 | apply Exists.intro)); refine ⟨?rel, rfl⟩)
                 case rel => exact ⟨_, (true), (Z11), H', ⟨Z86⟩, ⟨Z3 ai⟩, ⟨Z25 cE⟩, ⟨Z3 bs⟩, ⟨Z2⟩⟩
              case rest =>
               as_aux_lemma =>
                clear HC36
                (try clear c31); (try clear lb); (try clear c32); (try clear m9); (try clear c33); (try clear iO); (try clear qj); (try clear sV); (try clear sW)
                obtain ⟨kq, iq, rfl, HA, uR, ai, du, bs, HB⟩ := hcut
                cases kq with
                | zero => exact absurd HA.out (by simp [laws_FnScans.j3])
                | succ Bt =>
                 have H := HA.out
                 clear HA
                 simp only [laws_FnScans.j3] at H
                 by_cases c47 : iq = true
                 ·subst c47
                  rw [if_pos rfl] at H
                  obtain rfl := Option.some.inj H
                  as_aux_lemma =>
                   go_wp2
                   repeat (go_quiet (fail); try go_wp2)
                   go_ret
                   exact ⟨Z9, Z2⟩
                 replace c47 := Bool.eq_false_iff.mpr c47
                 subst c47
                 rw [if_neg (show ¬ (false = true) by decide)] at H
                 have H' := Aside0.mk H
                 clear H
                 go_wp2
                 repeat (go_quiet (fail); try go_wp2)
                 go_loopg [20] Bt (fun kq v20 w' => ∃ (bJ : Int), v20 = .int .i64 bJ ∧ Aside0 (laws_FnScans.l1 kq l1 cF eX (rdOf ByteArray.empty bE aN) ew bJ bE (bE.length : Int) aN = some r) ∧ Aside0 (kq ≤ Bt) ∧ Aside0 (Kd.R k55 55 w' w.heap.size (fun _ => True) (.slice lN cF.length hY) cF) ∧ Aside0 (Kd.R (Kd.int .i64) 3 w' w.heap.size (fun _ => True) uQ ew) ∧ Aside0 (Kd.R Kd.string 9 w' w.heap.size (fun _ => True) (.slice (some wu) bE.length yW) bE) ∧ Aside0 (Below w.heap.size w w'))
                 case atStart => exact ⟨(0), (Z11), H', ⟨Nat.le_refl _⟩, ⟨Z3 ai⟩, ⟨Z3 du⟩, ⟨Z3 bs⟩, ⟨Z2⟩⟩
                 case round =>
                  as_aux_lemma =>
                   clear H'
                   (try clear c47)
                   obtain ⟨bJ, rfl, HA, HK5, ai, du, bs, HB⟩ := hrel
                   cases gk with
                   | zero => exact absurd HA.out (by simp [laws_FnScans.l1])
                   | succ k5 =>
                    have H := HA.out
                    clear HA
                    simp only [laws_FnScans.l1] at H
                    by_cases c48 : bJ < eX
                    ·rw [if_pos c48] at H
                     have wv : decide (bJ < eX) = true := decide_eq_true c48
                     clear c48
                     by_cases c49 : 0 ≤ bJ
                     case neg => rw [if_neg c49] at H; exact absurd H (by simp)
                     rw [if_pos c49] at H
                     have c49b0 : decide (0 ≤ bJ) = true := decide_eq_true c49
                     clear c49
                     by_cases c50 : bJ < ((rdOf ByteArray.empty bE aN).size : Int)
                     case neg => rw [if_neg c50] at H; exact absurd H (by simp)
                     rw [if_pos c50] at H
                     have c50b0 : decide (bJ < ((rdOf ByteArray.empty bE aN).size : Int)) = true := decide_eq_true c50
                     clear c50
                     obtain ⟨fL, zS, H⟩ := bd_ H
                     (try dsimp only at H)
                     by_cases c53 : (((bt (rdOf ByteArray.empty bE aN) bJ) == 111) != fL) = true
                     ·rw [if_pos c53] at H
                      have pT : (((bt (rdOf ByteArray.empty bE aN) bJ) == 111) != fL) = true := c53
                      (try (have pU : decide (((bt (rdOf ByteArray.empty bE aN) bJ) == 111) = fL) = false := by simpa using c53))
                      (try (have ww : (((bt (rdOf ByteArray.empty bE aN) bJ) == 111) == fL) = false := by simpa using c53))
                      (try (have c53b3 : ¬ (((bt (rdOf ByteArray.empty bE aN) bJ) == 111) = fL) := by simpa using c53))
                      clear c53
                      obtain rfl := Option.some.inj H
                      have zT : 0 ≤ (bJ : Int) := of_decide_eq_true (Z8)
                      have zU : bJ < ((rdOf ByteArray.empty bE aN).size : Int) := of_decide_eq_true (Z8)
                      have hx51 := bt_at (rdOf ByteArray.empty bE aN) bJ
                      replace zT := eq_true zT
                      replace zU := eq_true zU
                      obtain ⟨Ao54, co54, eo54⟩ := Kd.R_slice du.out
                      subst eo54
                      as_aux_lemma =>
                       go_wp2_with (fail)
                       repeat (go_quiet ((go_at_call 14; (with_reducible refine (laws_pIn.calls k5 _ _ ew bJ fL _ ?_ ?_ zS.out).mono ?_); exact (Z1 du); exact (Kd.R_reads' du.out).2.1; rintro e w' ⟨rfl, ⟨nd, rfl⟩⟩; (try first | exact ⟨rfl, _, World.drewN_drewN _ _ _⟩ | exact ⟨rfl, _, Eq.trans (World.drewN_drewN _ _ _) (congrArg (World.drewN _) (Nat.add_assoc _ _ _))⟩))); try go_wp2_with (fail))
                       go_ret
                       exact ⟨Z9, Z2⟩
                     rw [if_neg c53] at H
                     have pT : (((bt (rdOf ByteArray.empty bE aN) bJ) == 111) != fL) = false := by simpa using c53
                     (try (have pU : decide (((bt (rdOf ByteArray.empty bE aN) bJ) == 111) = fL) = true := by simpa using c53))
                     (try (have ww : (((bt (rdOf ByteArray.empty bE aN) bJ) == 111) == fL) = true := by simpa using c53))
                     clear c53
                     have H' := Aside0.mk H
                     clear H
                     have zT : 0 ≤ (bJ : Int) := of_decide_eq_true (Z8)
                     have zU : bJ < ((rdOf ByteArray.empty bE aN).size : Int) := of_decide_eq_true (Z8)
                     have hx51 := bt_at (rdOf ByteArray.empty bE aN) bJ
                     replace zT := eq_true zT
                     replace zU := eq_true zU
                     obtain ⟨jm, jn, uS⟩ := Kd.R_slice du.out
                     subst uS
                     as_aux_lemma =>
                      go_wp2_with (fail)
                      repeat (go_quiet ((go_at_call 14; (with_reducible refine (laws_pIn.calls k5 _ _ ew bJ fL _ ?_ ?_ zS.out).mono ?_); exact (Z1 du); exact (Kd.R_reads' du.out).2.1; rintro e w' ⟨rfl, ⟨nd, rfl⟩⟩; (try first | exact ⟨rfl, _, World.drewN_drewN _ _ _⟩ | exact ⟨rfl, _, Eq.trans (World.drewN_drewN _ _ _) (congrArg (World.drewN _) (Nat.add_assoc _ _ _))⟩))); try go_wp2_with (fail))
                      go_roundg k5
                      case measure => have := oL.out; have := rD.out; have := HK3.out; have := uR.out; have := HK5.out; omega
                      case rel => exact ⟨(wrap64 (bJ + 1)), (Z11), H', ⟨by have := oL.out; have := rD.out; have := HK3.out; have := uR.out; have := HK5.out; omega⟩, ⟨Z3 ai⟩, ⟨Z3 du⟩, ⟨Z3 bs⟩, ⟨Z2⟩⟩
                    rw [if_neg c48] at H
                    have wv : decide (bJ < eX) = false := decide_eq_false c48
                    clear c48
                    have H' := Aside0.mk H
                    clear H
                    as_aux_lemma =>
                     go_wp2
                     repeat (go_quiet (fail); try go_wp2)
                     go_roundg k5
                     case measure => have := oL.out; have := rD.out; have := HK3.out; have := uR.out; have := HK5.out; omega
                     case rel => exact ⟨(wrap64 (aN + 1)), (Z11), H', ⟨by have := oL.out; have := rD.out; have := HK3.out; have := uR.out; have := HK5.out; omega⟩, ⟨Z3 ai⟩, ⟨Z3 bs⟩, ⟨Z2⟩⟩
             rw [if_neg c31] at H
             have lb : decide (aN < (bE.length : Int)) = false := decide_eq_false c31
             clear c31
             have H' := Aside0.mk H
             clear H
             as_aux_lemma =>
              go_wp2
              repeat (go_quiet (fail); try go_wp2)
              (refine Met.intro ?_; go_step; (repeat (first | apply ex_32 | apply ex_8 | apply Exists.intro)); refine ⟨?rel, rfl⟩)
              case rel => exact ⟨_, H', ⟨Z86⟩, ⟨Z2⟩⟩
      replace c19 := Bool.eq_false_iff.mpr c19
      subst c19
      rw [if_neg (show ¬ (false = true) by decide)] at H
      have H' := Aside0.mk H
      clear H
      as_aux_lemma =>
       go_wp2
       repeat (go_quiet (fail); try go_wp2)
       (refine Met.intro ?_; go_step; (repeat (first | apply ex_32 | apply ex_8 | apply Exists.intro)); refine ⟨?rel, rfl⟩)
       case rel => exact ⟨_, H', ⟨Z60 oL⟩, ⟨Z2⟩⟩
    case rest =>
     as_aux_lemma =>
      clear HC18
      (try clear c17)
      obtain ⟨kq, HA, rI, HB⟩ := hcut
      cases kq with
      | zero => exact absurd HA.out (by simp [laws_FnScans.j5])
      | succ gT =>
       have H := HA.out
       clear HA
       simp only [laws_FnScans.j5] at H
       obtain ⟨bD, CJ, H⟩ := bd_ H
       (try dsimp only at H)
       obtain ⟨⟨fh, gU⟩, zV, H⟩ := bd_ H
       (try dsimp only at H)
       obtain ⟨⟨qW, jo⟩, CK, H⟩ := bd_ H
       (try dsimp only at H)
       have HC59 := Aside0.mk H
       clear H
       go_upto_region 28 with (first | (go_at_call 15; (with_reducible refine (spec_DrawHolesIn.calls gT _ _ l1 bD _ ?_ ?_ CJ.out).mono ?_); exact (Z22 HR1); exact HC1.out; rintro e zW ⟨Bx, rfl, ho0, hb⟩; refine k2_ (Kd.R_lower ho0 (below_size (Z2))) (below_step (Z2) hb) ?_; clear HB; intro bw HB; (try clear hb ho0); obtain ⟨sY, sZ, pk⟩ := Kd.R_slice bw.out; subst pk) | (go_at_call 16; (with_reducible refine (impl_HolesIn.calls gT _ _ bD fh gU _ ?_ ?_ zV.out).mono ?_); exact (Z1 bw); exact (Kd.R_reads' bw.out).2.1; rintro e CL ⟨yZ, rfl, ho0, hb⟩; refine k3_ (Ya_ bw) (Kd.R_lower ho0 (below_size (Z2))) (below_step (Z2) hb) ?_; clear bw HB; intro bw co HB; (try clear hb ho0)) | (go_at_call 17; (with_reducible refine (spec_HolesIn.calls gT _ _ bD qW jo _ ?_ ?_ CK.out).mono ?_); exact (Z1 bw); exact (Kd.R_reads' bw.out).2.1; rintro e CB ⟨Bz, rfl, ho0, hb⟩; refine k4_ (Ya_ bw) (Yb_ co) (Kd.R_lower (Kd.R_new' ho0 (Yd_ co)) (below_size (Z2))) (below_step (Z2) hb) ?_; clear bw co HB; intro bw co gA HB; (try clear hb ho0)))
       repeat (go_quiet (fail); go_upto_region 28 with (fail))
       (try simp only [Act.put, List.setIfInBounds_toArray, List.set_cons_zero, List.set_cons_succ])
       go_cut [173] (fun v173 wc => ∃ (kq : Nat) (ir : Bool), v173 = .bool ir ∧ Aside0 (laws_FnScans.j6 kq l1 bD fh gU ir = some r) ∧ Aside0 (kq ≤ gT) ∧ Aside0 (Kd.R Kd.string 9 wc w.heap.size (fun _ => True) (.slice sY bD.length sZ) bD) ∧ Aside0 (Kd.R k55 55 wc w.heap.size (fun _ => True) yZ fh) ∧ Aside0 (Below w.heap.size w wc))
       case first =>
        as_aux_lemma =>
         have H := HC59.out
         clear HC59
         by_cases c64 : (gU != jo) = true
         ·rw [if_pos c64] at H
          have g6 : (gU != jo) = true := c64
          (try (have pV : decide (gU = jo) = false := by simpa using c64))
          (try (have wx : (gU == jo) = false := by simpa using c64))
          (try (have c64b3 : ¬ (gU = jo) := by simpa using c64))
          clear c64
          (first | rw [g6] | (simp only [i64_w, i32_w]; rw [g6]) | skip)
          have H' := Aside0.mk H
          clear H
          as_aux_lemma =>
           go_wp2
           repeat (go_quiet (fail); try go_wp2)
           (refine Met.intro ?_; go_step; (repeat (first | apply ex_32 | apply ex_8 | apply Exists.intro)); refine ⟨?rel, rfl⟩)
           case rel => exact ⟨_, (true), (Z11), H', ⟨by have := oL.out; have := rI.out; first | omega | exact Nat.le_refl _⟩, ⟨Z3 bw⟩, ⟨Z25 co⟩, ⟨Z2⟩⟩
         rw [if_neg c64] at H
         have g6 : (gU != jo) = false := by simpa using c64
         (try (have pV : decide (gU = jo) = true := by simpa using c64))
         (try (have wx : (gU == jo) = true := by simpa using c64))
         clear c64
         (first | rw [g6] | (simp only [i64_w, i32_w]; rw [g6]) | skip)
         obtain ⟨qR, AB, H⟩ := bd_ H
         (try dsimp only at H)
         have H' := Aside0.mk H
         clear H
         obtain ⟨Ao66, co66, eo66⟩ := Kd.R_slice co.out
         subst eo66
         obtain ⟨Ao67, co67, eo67⟩ := Kd.R_slice gA.out
         subst eo67
         as_aux_lemma =>
          go_wp2_with (go_at_call 18; (with_reducible refine (laws_pSameHoles.calls gT _ _ fh _ _ qW qR _ ?_ ?_ ?_ ?_ AB.out).mono ?_); exact (Z1 co); exact (Kd.R_reads' co.out).2.1; exact (Z1 gA); exact (Kd.R_reads' gA.out).2.1; rintro e w' ⟨rfl, ⟨nd, rfl⟩⟩; (try first | exact ⟨rfl, _, World.drewN_drewN _ _ _⟩ | exact ⟨rfl, _, Eq.trans (World.drewN_drewN _ _ _) (congrArg (World.drewN _) (Nat.add_assoc _ _ _))⟩))
          repeat (go_quiet (fail); try go_wp2_with (fail))
          (refine Met.intro ?_; go_step; (repeat (first | apply ex_32 | apply ex_8 | apply Exists.intro)); refine ⟨?rel, rfl⟩)
          case rel => exact ⟨_, (!qR), (Z11), H', ⟨by have := oL.out; have := rI.out; first | omega | exact Nat.le_refl _⟩, ⟨Z3 bw⟩, ⟨Z25 co⟩, ⟨Z2⟩⟩
       case rest =>
        as_aux_lemma =>
         clear HC59
         obtain ⟨kq, ir, rfl, HA, xR, aW, bc, HB⟩ := hcut
         cases kq with
         | zero => exact absurd HA.out (by simp [laws_FnScans.j6])
         | succ fM =>
          have H := HA.out
          clear HA
          simp only [laws_FnScans.j6] at H
          by_cases c68 : ir = true
          ·subst c68
           rw [if_pos rfl] at H
           obtain rfl := Option.some.inj H
           as_aux_lemma =>
            go_wp2
            repeat (go_quiet (fail); try go_wp2)
            go_ret
            exact ⟨Z9, Z2⟩
          replace c68 := Bool.eq_false_iff.mpr c68
          subst c68
          rw [if_neg (show ¬ (false = true) by decide)] at H
          have HC69 := Aside0.mk H
          clear H
          go_upto_if 174 with (fail)
          repeat (go_quiet (fail); go_upto_if 174 with (fail))
          go_cut [] (fun wc => ∃ (kq : Nat), Aside0 (laws_FnScans.j7 kq l1 = some r) ∧ Aside0 (kq ≤ fM) ∧ Aside0 (Below w.heap.size w wc))
          case first =>
           as_aux_lemma =>
            have H := HC69.out
            clear HC69
            by_cases c70 : gU = true
            ·subst c70
             rw [if_pos rfl] at H
             by_cases c71 : 0 < (bD.length : Int)
             case neg => rw [if_neg c71] at H; exact absurd H (by simp)
             rw [if_pos c71] at H
             have s9 : decide (0 < (bD.length : Int)) = true := decide_eq_true c71
             have c71b1 : decide (0 < bD.length) = true := decide_eq_true (by omega)
             clear c71
             (first | rw [s9] | (simp only [i64_w, i32_w]; rw [s9]) | skip)
             obtain ⟨⟨f8, t686⟩, sf, H⟩ := bd_ H
             (try dsimp only at H)
             by_cases c73 : t686 = true
             ·subst c73
              rw [if_pos rfl] at H
              obtain ⟨yO, zX, H⟩ := bd_ H
              (try dsimp only at H)
              by_cases c75 : yO = true
              ·subst c75
               rw [if_pos rfl] at H
               have H' := Aside0.mk H
               clear H
               have hZ : 0 ≤ (0 : Int) := (by omega)
               have ia : 0 < (bD.length : Int) := of_decide_eq_true (Z8)
               obtain ⟨wy, e684, dH⟩ := Kd.at_string (Kd.R_reads' aW.out).2.2 0 hZ ia
               cases e684
               have qi684 : (0 < bD.length) = True := eq_true (by omega)
               (try rw [show ((0 : Int)).toNat = 0 from rfl] at dH)
               (try rw [Addr.add_zero'] at dH)
               replace hZ := eq_true hZ
               replace ia := eq_true ia
               obtain ⟨Ao76, co76, eo76⟩ := Kd.R_slice bc.out
               subst eo76
               as_aux_lemma =>
                go_wp2_with (first | (go_at_call 6; (with_reducible refine (impl_ScanOf.calls fM _ _ fh ((rdOf ByteArray.empty bD 0).size : Int) (bD.length : Int) f8 true _ ?_ ?_ sf.out).mono ?_); exact (Z1 bc); exact (Kd.R_reads' bc.out).2.1; rintro e C4 ⟨na, rfl, ho0, hb⟩; refine k4_ (Yb_ aW) (Ya_ bc) (Kd.R_lower (Kd.R_new' ho0 (Yd_ aW)) (below_size (Z2))) (below_step (Z2) hb) ?_; clear aW bc HB; intro aW bc b9 HB; (try clear hb ho0); obtain ⟨BB, BC, ta⟩ := Kd.R_slice b9.out; subst ta) | (go_at_call 8; (with_reducible refine (laws_pSameTexts.calls fM _ _ f8 _ _ bD true _ ?_ ?_ ?_ ?_ zX.out).mono ?_); exact (Z1 b9); exact (Kd.R_reads' b9.out).2.1; exact (Z1 aW); exact (Kd.R_reads' aW.out).2.1; rintro e w' ⟨rfl, ⟨nd, rfl⟩⟩; (try first | exact ⟨rfl, _, World.drewN_drewN _ _ _⟩ | exact ⟨rfl, _, Eq.trans (World.drewN_drewN _ _ _) (congrArg (World.drewN _) (Nat.add_assoc _ _ _))⟩)))
                repeat (go_quiet (fail); try go_wp2_with (fail))
                (refine Met.intro ?_; go_step; (repeat (first | apply ex_32 | apply ex_8 | apply Exists.intro)); refine ⟨?rel, rfl⟩)
                case rel => exact ⟨_, H', ⟨by have := oL.out; have := rI.out; have := xR.out; first | omega | exact Nat.le_refl _⟩, ⟨Z2⟩⟩
              replace c75 := Bool.eq_false_iff.mpr c75
              subst c75
              rw [if_neg (show ¬ (false = true) by decide)] at H
              obtain rfl := Option.some.inj H
              have hZ : 0 ≤ (0 : Int) := (by omega)
              have ia : 0 < (bD.length : Int) := of_decide_eq_true (Z8)
              obtain ⟨wy, e684, dH⟩ := Kd.at_string (Kd.R_reads' aW.out).2.2 0 hZ ia
              cases e684
              have qi684 : (0 < bD.length) = True := eq_true (by omega)
              (try rw [show ((0 : Int)).toNat = 0 from rfl] at dH)
              (try rw [Addr.add_zero'] at dH)
              replace hZ := eq_true hZ
              replace ia := eq_true ia
              obtain ⟨Ao79, co79, eo79⟩ := Kd.R_slice bc.out
              subst eo79
              as_aux_lemma =>
               go_wp2_with (first | (go_at_call 6; (with_reducible refine (impl_ScanOf.calls fM _ _ fh ((rdOf ByteArray.empty bD 0).size : Int) (bD.length : Int) f8 true _ ?_ ?_ sf.out).mono ?_); exact (Z1 bc); exact (Kd.R_reads' bc.out).2.1; rintro e C5 ⟨na, rfl, ho0, hb⟩; refine k4_ (Yb_ aW) (Ya_ bc) (Kd.R_lower (Kd.R_new' ho0 (Yd_ aW)) (below_size (Z2))) (below_step (Z2) hb) ?_; clear aW bc HB; intro aW bc b9 HB; (try clear hb ho0); obtain ⟨BD, BE, tb⟩ := Kd.R_slice b9.out; subst tb) | (go_at_call 8; (with_reducible refine (laws_pSameTexts.calls fM _ _ f8 _ _ bD false _ ?_ ?_ ?_ ?_ zX.out).mono ?_); exact (Z1 b9); exact (Kd.R_reads' b9.out).2.1; exact (Z1 aW); exact (Kd.R_reads' aW.out).2.1; rintro e w' ⟨rfl, ⟨nd, rfl⟩⟩; (try first | exact ⟨rfl, _, World.drewN_drewN _ _ _⟩ | exact ⟨rfl, _, Eq.trans (World.drewN_drewN _ _ _) (congrArg (World.drewN _) (Nat.add_assoc _ _ _))⟩)))
               repeat (go_quiet (fail); try go_wp2_with (fail))
               go_ret
               exact ⟨Z9, Z2⟩
             replace c73 := Bool.eq_false_iff.mpr c73
             subst c73
             rw [if_neg (show ¬ (false = true) by decide)] at H
             obtain rfl := Option.some.inj H
             have hZ : 0 ≤ (0 : Int) := (by omega)
             have ia : 0 < (bD.length : Int) := of_decide_eq_true (Z8)
             obtain ⟨wy, e684, dH⟩ := Kd.at_string (Kd.R_reads' aW.out).2.2 0 hZ ia
             cases e684
             have qi684 : (0 < bD.length) = True := eq_true (by omega)
             (try rw [show ((0 : Int)).toNat = 0 from rfl] at dH)
             (try rw [Addr.add_zero'] at dH)
             replace hZ := eq_true hZ
             replace ia := eq_true ia
             obtain ⟨Ao82, co82, eo82⟩ := Kd.R_slice bc.out
             subst eo82
             as_aux_lemma =>
              go_wp2_with (go_at_call 6; (with_reducible refine (impl_ScanOf.calls fM _ _ fh ((rdOf ByteArray.empty bD 0).size : Int) (bD.length : Int) f8 false _ ?_ ?_ sf.out).mono ?_); exact (Z1 bc); exact (Kd.R_reads' bc.out).2.1; rintro e C6 ⟨na, rfl, ho0, hb⟩; refine k4_ (Yb_ aW) (Ya_ bc) (Kd.R_lower (Kd.R_new' ho0 (Yd_ aW)) (below_size (Z2))) (below_step (Z2) hb) ?_; clear aW bc HB; intro aW bc b9 HB; (try clear hb ho0))
              repeat (go_quiet (fail); try go_wp2_with (fail))
              go_ret
              exact ⟨Z9, Z2⟩
            replace c70 := Bool.eq_false_iff.mpr c70
            subst c70
            rw [if_neg (show ¬ (false = true) by decide)] at H
            have H' := Aside0.mk H
            clear H
            as_aux_lemma =>
             go_wp2
             repeat (go_quiet (fail); try go_wp2)
             (refine Met.intro ?_; go_step; (repeat (first | apply ex_32 | apply ex_8 | apply Exists.intro)); refine ⟨?rel, rfl⟩)
             case rel => exact ⟨_, H', ⟨by have := oL.out; have := rI.out; have := xR.out; first | omega | exact Nat.le_refl _⟩, ⟨Z2⟩⟩
          case rest =>
           as_aux_lemma =>
            clear HC69
            (try clear c68)
            obtain ⟨kq, HA, HJ68, HB⟩ := hcut
            cases kq with
            | zero => exact absurd HA.out (by simp [laws_FnScans.j7])
            | succ bg =>
             have H := HA.out
             clear HA
             simp only [laws_FnScans.j7] at H
             obtain ⟨aJ, CM, H⟩ := bd_ H
             (try dsimp only at H)
             obtain ⟨⟨bd, cG⟩, CN, H⟩ := bd_ H
             (try dsimp only at H)
             obtain ⟨⟨dh, jp⟩, CO, H⟩ := bd_ H
             (try dsimp only at H)
             obtain ⟨⟨bi, ex⟩, CP, H⟩ := bd_ H
             (try dsimp only at H)
             obtain ⟨⟨ea, jq⟩, CQ, H⟩ := bd_ H
             (try dsimp only at H)
             obtain ⟨⟨nb, ey⟩, CR, H⟩ := bd_ H
             (try dsimp only at H)
             obtain ⟨⟨fi, jr⟩, rt, H⟩ := bd_ H
             (try dsimp only at H)
             have HC91 := Aside0.mk H
             clear H
             go_upto_region 41 with (first | (go_at_call 19; (with_reducible refine (spec_DrawLeastHoles.calls bg _ _ l1 aJ _ ?_ ?_ CM.out).mono ?_); exact (Z22 HR1); exact HC1.out; rintro e C7 ⟨BM, rfl, ho0, hb⟩; refine k2_ (Kd.R_lower ho0 (below_size (Z2))) (below_step (Z2) hb) ?_; clear HB; intro am HB; (try clear hb ho0); obtain ⟨tc, td, te⟩ := Kd.R_slice am.out; subst te) | (go_at_call 20; (with_reducible refine (impl_LeastHoles.calls bg _ _ aJ bd cG _ ?_ ?_ CN.out).mono ?_); exact (Z1 am); exact (Kd.R_reads' am.out).2.1; rintro e C8 ⟨tf, rfl, ho0, hb⟩; refine k3_ (Yb_ am) (Kd.R_lower (Kd.R_new' ho0 (Yd_ am)) (below_size (Z2))) (below_step (Z2) hb) ?_; clear am HB; intro am ao HB; (try clear hb ho0)) | (go_at_call 21; (with_reducible refine (spec_LeastHoles.calls bg _ _ aJ dh jp _ ?_ ?_ CO.out).mono ?_); exact (Z1 am); exact (Kd.R_reads' am.out).2.1; rintro e C9 ⟨BN, rfl, ho0, hb⟩; refine k4_ (Yb_ am) (Yb_ ao) (Kd.R_lower (Kd.R_new' (Kd.R_new' ho0 (Yd_ am)) (Yd_ ao)) (below_size (Z2))) (below_step (Z2) hb) ?_; clear am ao HB; intro am ao au HB; (try clear hb ho0)) | (go_at_call 22; (with_reducible refine (impl_MostHoles.calls bg _ _ aJ bi ex _ ?_ ?_ CP.out).mono ?_); exact (Z1 am); exact (Kd.R_reads' am.out).2.1; rintro e Da ⟨tg, rfl, ho0, hb⟩; refine k5_ (Yb_ am) (Yb_ ao) (Yb_ au) (Kd.R_lower (Kd.R_new' (Kd.R_new' (Kd.R_new' ho0 (Yd_ am)) (Yd_ ao)) (Yd_ au)) (below_size (Z2))) (below_step (Z2) hb) ?_; clear am ao au HB; intro am ao au aE HB; (try clear hb ho0)) | (go_at_call 23; (with_reducible refine (spec_MostHoles.calls bg _ _ aJ ea jq _ ?_ ?_ CQ.out).mono ?_); exact (Z1 am); exact (Kd.R_reads' am.out).2.1; rintro e Db ⟨BO, rfl, ho0, hb⟩; refine k6_ (Yb_ am) (Yb_ ao) (Yb_ au) (Yb_ aE) (Kd.R_lower (Kd.R_new' (Kd.R_new' (Kd.R_new' (Kd.R_new' ho0 (Yd_ am)) (Yd_ ao)) (Yd_ au)) (Yd_ aE)) (below_size (Z2))) (below_step (Z2) hb) ?_; clear am ao au aE HB; intro am ao au aE aK HB; (try clear hb ho0)) | (go_at_call 9; (with_reducible refine (impl_CountStains.calls bg _ _ aJ nb ey _ ?_ ?_ CR.out).mono ?_); exact (Z1 am); exact (Kd.R_reads' am.out).2.1; rintro e w' ⟨rfl, ⟨nd, rfl⟩⟩; (try first | exact ⟨rfl, _, World.drewN_drewN _ _ _⟩ | exact ⟨rfl, _, Eq.trans (World.drewN_drewN _ _ _) (congrArg (World.drewN _) (Nat.add_assoc _ _ _))⟩)) | (go_at_call 24; (with_reducible refine (spec_CountStains.calls bg _ _ aJ fi jr _ ?_ ?_ rt.out).mono ?_); exact (Z1 am); exact (Kd.R_reads' am.out).2.1; rintro e w' ⟨rfl, ⟨nd, rfl⟩⟩; (try first | exact ⟨rfl, _, World.drewN_drewN _ _ _⟩ | exact ⟨rfl, _, Eq.trans (World.drewN_drewN _ _ _) (congrArg (World.drewN _) (Nat.add_assoc _ _ _))⟩)))
             repeat (go_quiet (fail); go_upto_region 41 with (fail))
             (try simp only [Act.put, List.setIfInBounds_toArray, List.set_cons_zero, List.set_cons_succ])
             go_cut [271] (fun v271 wc => ∃ (kq : Nat) (iu : Bool), v271 = .bool iu ∧ Aside0 (laws_FnScans.j8 kq aJ bd cG bi fi iu = some r) ∧ Aside0 (kq ≤ bg) ∧ Aside0 (Kd.R Kd.string 9 wc w.heap.size (fun k_ => some k_ ≠ (tf : Value).ownBlock ∧ some k_ ≠ (tg : Value).ownBlock) (.slice tc aJ.length td) aJ) ∧ Aside0 (Kd.R Kd.string 9 wc w.heap.size (fun k_ => some k_ ≠ ((.slice tc aJ.length td) : Value).ownBlock ∧ some k_ ≠ (tg : Value).ownBlock) tf bd) ∧ Aside0 (Kd.R Kd.string 9 wc w.heap.size (fun k_ => some k_ ≠ ((.slice tc aJ.length td) : Value).ownBlock ∧ some k_ ≠ (tf : Value).ownBlock) tg bi) ∧ Aside0 (Below w.heap.size w wc))
             case first =>
              as_aux_lemma =>
               have H := HC91.out
               clear HC91
               by_cases c98 : (cG != jp) = true
               ·rw [if_pos c98] at H
                have ll : (cG != jp) = true := c98
                (try (have wz : decide (cG = jp) = false := by simpa using c98))
                (try (have wA : (cG == jp) = false := by simpa using c98))
                (try (have c98b3 : ¬ (cG = jp) := by simpa using c98))
                clear c98
                (first | rw [ll] | (simp only [i64_w, i32_w]; rw [ll]) | skip)
                have H' := Aside0.mk H
                clear H
                as_aux_lemma =>
                 go_wp2
                 repeat (go_quiet (fail); try go_wp2)
                 (refine Met.intro ?_; go_step; (repeat (first | apply ex_32 | apply ex_8 | apply Exists.intro)); refine ⟨?rel, rfl⟩)
                 case rel => exact ⟨_, (true), (Z11), H', ⟨Z51⟩, ⟨Z30 am⟩, ⟨Z30 ao⟩, ⟨Z45⟩, ⟨Z2⟩⟩
               rw [if_neg c98] at H
               have ll : (cG != jp) = false := by simpa using c98
               (try (have wz : decide (cG = jp) = true := by simpa using c98))
               (try (have wA : (cG == jp) = true := by simpa using c98))
               clear c98
               (first | rw [ll] | (simp only [i64_w, i32_w]; rw [ll]) | skip)
               obtain ⟨yP, iv, H⟩ := bd_ H
               (try dsimp only at H)
               by_cases c100 : yP = true
               ·subst c100
                rw [if_pos rfl] at H
                by_cases c101 : (ex != jq) = true
                ·rw [if_pos c101] at H
                 have th : (ex != jq) = true := c101
                 (try (have ti : decide (ex = jq) = false := by simpa using c101))
                 (try (have tj : (ex == jq) = false := by simpa using c101))
                 (try (have c101b3 : ¬ (ex = jq) := by simpa using c101))
                 clear c101
                 have H' := Aside0.mk H
                 clear H
                 obtain ⟨Ao102, co102, eo102⟩ := Kd.R_slice ao.out
                 subst eo102
                 obtain ⟨Ao103, co103, eo103⟩ := Kd.R_slice au.out
                 subst eo103
                 as_aux_lemma =>
                  go_wp2_with (go_at_call 8; (with_reducible refine (laws_pSameTexts.calls bg _ _ bd _ _ dh true _ ?_ ?_ ?_ ?_ iv.out).mono ?_); exact (Z1 ao); exact (Kd.R_reads' ao.out).2.1; exact (Z1 au); exact (Kd.R_reads' au.out).2.1; rintro e w' ⟨rfl, ⟨nd, rfl⟩⟩; (try first | exact ⟨rfl, _, World.drewN_drewN _ _ _⟩ | exact ⟨rfl, _, Eq.trans (World.drewN_drewN _ _ _) (congrArg (World.drewN _) (Nat.add_assoc _ _ _))⟩))
                  repeat (go_quiet (fail); try go_wp2_with (fail))
                  (refine Met.intro ?_; go_step; (repeat (first | apply ex_32 | apply ex_8 | apply Exists.intro)); refine ⟨?rel, rfl⟩)
                  case rel => exact ⟨_, (true), (Z11), H', ⟨Z51⟩, ⟨Z30 am⟩, ⟨Z30 ao⟩, ⟨Z45⟩, ⟨Z2⟩⟩
                rw [if_neg c101] at H
                have th : (ex != jq) = false := by simpa using c101
                (try (have ti : decide (ex = jq) = true := by simpa using c101))
                (try (have tj : (ex == jq) = true := by simpa using c101))
                clear c101
                obtain ⟨yQ, eY, H⟩ := bd_ H
                (try dsimp only at H)
                by_cases c105 : yQ = true
                ·subst c105
                 rw [if_pos rfl] at H
                 by_cases c106 : (ey != jr) = true
                 ·rw [if_pos c106] at H
                  have tk : (ey != jr) = true := c106
                  (try (have tl : decide (ey = jr) = false := by simpa using c106))
                  (try (have tm : (ey == jr) = false := by simpa using c106))
                  (try (have c106b3 : ¬ (ey = jr) := by simpa using c106))
                  clear c106
                  have H' := Aside0.mk H
                  clear H
                  obtain ⟨Ao107, co107, eo107⟩ := Kd.R_slice ao.out
                  subst eo107
                  obtain ⟨Ao108, co108, eo108⟩ := Kd.R_slice au.out
                  subst eo108
                  as_aux_lemma =>
                   go_wp2_with (first | (go_at_call 8; (with_reducible refine (laws_pSameTexts.calls bg _ _ bd _ _ dh true _ ?_ ?_ ?_ ?_ iv.out).mono ?_); exact (Z1 ao); exact (Kd.R_reads' ao.out).2.1; exact (Z1 au); exact (Kd.R_reads' au.out).2.1; rintro e w' ⟨rfl, ⟨nd, rfl⟩⟩; (try first | exact ⟨rfl, _, World.drewN_drewN _ _ _⟩ | exact ⟨rfl, _, Eq.trans (World.drewN_drewN _ _ _) (congrArg (World.drewN _) (Nat.add_assoc _ _ _))⟩); obtain ⟨wC, wD, nc⟩ := Kd.R_slice aE.out; subst nc; obtain ⟨wE, wF, ne⟩ := Kd.R_slice aK.out; subst ne) | (go_at_call 8; (with_reducible refine (laws_pSameTexts.calls bg _ _ bi _ _ ea true _ ?_ ?_ ?_ ?_ eY.out).mono ?_); exact (Z1 aE); exact (Kd.R_reads' aE.out).2.1; exact (Z1 aK); exact (Kd.R_reads' aK.out).2.1; rintro e w' ⟨rfl, ⟨nd, rfl⟩⟩; (try first | exact ⟨rfl, _, World.drewN_drewN _ _ _⟩ | exact ⟨rfl, _, Eq.trans (World.drewN_drewN _ _ _) (congrArg (World.drewN _) (Nat.add_assoc _ _ _))⟩)))
                   repeat (go_quiet (fail); try go_wp2_with (fail))
                   (refine Met.intro ?_; go_step; (repeat (first | apply ex_32 | apply ex_8 | apply Exists.intro)); refine ⟨?rel, rfl⟩)
                   case rel => exact ⟨_, (true), (Z11), H', ⟨Z51⟩, ⟨Z30 am⟩, ⟨Z30 ao⟩, ⟨Z45⟩, ⟨Z2⟩⟩
                 rw [if_neg c106] at H
                 have tk : (ey != jr) = false := by simpa using c106
                 (try (have tl : decide (ey = jr) = true := by simpa using c106))
                 (try (have tm : (ey == jr) = true := by simpa using c106))
                 clear c106
                 by_cases c111 : nb = fi
                 ·rw [if_pos c111] at H
                  have tn : (nb == fi) = true := beq_iff_eq.mpr c111
                  have tp : (nb != fi) = false := bne_eq_false_iff_eq.mpr c111
                  clear c111
                  by_cases c112 : (ex != cG) = true
                  ·rw [if_pos c112] at H
                   have tq : (ex != cG) = true := c112
                   (try (have tr : decide (ex = cG) = false := by simpa using c112))
                   (try (have tt : (ex == cG) = false := by simpa using c112))
                   (try (have c112b3 : ¬ (ex = cG) := by simpa using c112))
                   clear c112
                   have H' := Aside0.mk H
                   clear H
                   obtain ⟨Ao113, co113, eo113⟩ := Kd.R_slice ao.out
                   subst eo113
                   obtain ⟨Ao114, co114, eo114⟩ := Kd.R_slice au.out
                   subst eo114
                   as_aux_lemma =>
                    go_wp2_with (first | (go_at_call 8; (with_reducible refine (laws_pSameTexts.calls bg _ _ bd _ _ dh true _ ?_ ?_ ?_ ?_ iv.out).mono ?_); exact (Z1 ao); exact (Kd.R_reads' ao.out).2.1; exact (Z1 au); exact (Kd.R_reads' au.out).2.1; rintro e w' ⟨rfl, ⟨nd, rfl⟩⟩; (try first | exact ⟨rfl, _, World.drewN_drewN _ _ _⟩ | exact ⟨rfl, _, Eq.trans (World.drewN_drewN _ _ _) (congrArg (World.drewN _) (Nat.add_assoc _ _ _))⟩); obtain ⟨wG, wH, nf⟩ := Kd.R_slice aE.out; subst nf; obtain ⟨wI, wJ, ng⟩ := Kd.R_slice aK.out; subst ng) | (go_at_call 8; (with_reducible refine (laws_pSameTexts.calls bg _ _ bi _ _ ea true _ ?_ ?_ ?_ ?_ eY.out).mono ?_); exact (Z1 aE); exact (Kd.R_reads' aE.out).2.1; exact (Z1 aK); exact (Kd.R_reads' aK.out).2.1; rintro e w' ⟨rfl, ⟨nd, rfl⟩⟩; (try first | exact ⟨rfl, _, World.drewN_drewN _ _ _⟩ | exact ⟨rfl, _, Eq.trans (World.drewN_drewN _ _ _) (congrArg (World.drewN _) (Nat.add_assoc _ _ _))⟩)))
                    repeat (go_quiet (fail); try go_wp2_with (fail))
                    (refine Met.intro ?_; go_step; (repeat (first | apply ex_32 | apply ex_8 | apply Exists.intro)); refine ⟨?rel, rfl⟩)
                    case rel => exact ⟨_, (true), (Z11), H', ⟨Z51⟩, ⟨Z30 am⟩, ⟨Z30 ao⟩, ⟨Z45⟩, ⟨Z2⟩⟩
                  rw [if_neg c112] at H
                  have tq : (ex != cG) = false := by simpa using c112
                  (try (have tr : decide (ex = cG) = true := by simpa using c112))
                  (try (have tt : (ex == cG) = true := by simpa using c112))
                  clear c112
                  by_cases c117 : (ey != cG) = true
                  ·rw [if_pos c117] at H
                   have tu : (ey != cG) = true := c117
                   (try (have tv : decide (ey = cG) = false := by simpa using c117))
                   (try (have tw : (ey == cG) = false := by simpa using c117))
                   (try (have c117b3 : ¬ (ey = cG) := by simpa using c117))
                   clear c117
                   have H' := Aside0.mk H
                   clear H
                   obtain ⟨Ao118, co118, eo118⟩ := Kd.R_slice ao.out
                   subst eo118
                   obtain ⟨Ao119, co119, eo119⟩ := Kd.R_slice au.out
                   subst eo119
                   as_aux_lemma =>
                    go_wp2_with (first | (go_at_call 8; (with_reducible refine (laws_pSameTexts.calls bg _ _ bd _ _ dh true _ ?_ ?_ ?_ ?_ iv.out).mono ?_); exact (Z1 ao); exact (Kd.R_reads' ao.out).2.1; exact (Z1 au); exact (Kd.R_reads' au.out).2.1; rintro e w' ⟨rfl, ⟨nd, rfl⟩⟩; (try first | exact ⟨rfl, _, World.drewN_drewN _ _ _⟩ | exact ⟨rfl, _, Eq.trans (World.drewN_drewN _ _ _) (congrArg (World.drewN _) (Nat.add_assoc _ _ _))⟩); obtain ⟨wK, wL, nh⟩ := Kd.R_slice aE.out; subst nh; obtain ⟨wM, wN, ni⟩ := Kd.R_slice aK.out; subst ni) | (go_at_call 8; (with_reducible refine (laws_pSameTexts.calls bg _ _ bi _ _ ea true _ ?_ ?_ ?_ ?_ eY.out).mono ?_); exact (Z1 aE); exact (Kd.R_reads' aE.out).2.1; exact (Z1 aK); exact (Kd.R_reads' aK.out).2.1; rintro e w' ⟨rfl, ⟨nd, rfl⟩⟩; (try first | exact ⟨rfl, _, World.drewN_drewN _ _ _⟩ | exact ⟨rfl, _, Eq.trans (World.drewN_drewN _ _ _) (congrArg (World.drewN _) (Nat.add_assoc _ _ _))⟩)))
                    repeat (go_quiet (fail); try go_wp2_with (fail))
                    (refine Met.intro ?_; go_step; (repeat (first | apply ex_32 | apply ex_8 | apply Exists.intro)); refine ⟨?rel, rfl⟩)
                    case rel => exact ⟨_, (true), (Z11), H', ⟨Z51⟩, ⟨Z30 am⟩, ⟨Z30 ao⟩, ⟨Z45⟩, ⟨Z2⟩⟩
                  rw [if_neg c117] at H
                  have tu : (ey != cG) = false := by simpa using c117
                  (try (have tv : decide (ey = cG) = true := by simpa using c117))
                  (try (have tw : (ey == cG) = true := by simpa using c117))
                  clear c117
                  obtain ⟨qS, za, H⟩ := bd_ H
                  (try dsimp only at H)
                  have H' := Aside0.mk H
                  clear H
                  obtain ⟨Ao123, co123, eo123⟩ := Kd.R_slice ao.out
                  subst eo123
                  obtain ⟨Ao124, co124, eo124⟩ := Kd.R_slice au.out
                  subst eo124
                  as_aux_lemma =>
                   go_wp2_with (first | (go_at_call 8; (with_reducible refine (laws_pSameTexts.calls bg _ _ bd _ _ dh true _ ?_ ?_ ?_ ?_ iv.out).mono ?_); exact (Z1 ao); exact (Kd.R_reads' ao.out).2.1; exact (Z1 au); exact (Kd.R_reads' au.out).2.1; rintro e w' ⟨rfl, ⟨nd, rfl⟩⟩; (try first | exact ⟨rfl, _, World.drewN_drewN _ _ _⟩ | exact ⟨rfl, _, Eq.trans (World.drewN_drewN _ _ _) (congrArg (World.drewN _) (Nat.add_assoc _ _ _))⟩); obtain ⟨wP, wQ, nj⟩ := Kd.R_slice aE.out; subst nj; obtain ⟨wR, wU, nk⟩ := Kd.R_slice aK.out; subst nk) | (go_at_call 8; (with_reducible refine (laws_pSameTexts.calls bg _ _ bi _ _ ea true _ ?_ ?_ ?_ ?_ eY.out).mono ?_); exact (Z1 aE); exact (Kd.R_reads' aE.out).2.1; exact (Z1 aK); exact (Kd.R_reads' aK.out).2.1; rintro e w' ⟨rfl, ⟨nd, rfl⟩⟩; (try first | exact ⟨rfl, _, World.drewN_drewN _ _ _⟩ | exact ⟨rfl, _, Eq.trans (World.drewN_drewN _ _ _) (congrArg (World.drewN _) (Nat.add_assoc _ _ _))⟩)) | (go_at_call 10; (with_reducible refine (impl_IsScan.calls bg _ _ aJ qS _ ?_ ?_ za.out).mono ?_); exact (Z1 am); exact (Kd.R_reads' am.out).2.1; rintro e w' ⟨rfl, ⟨nd, rfl⟩⟩; (try first | exact ⟨rfl, _, World.drewN_drewN _ _ _⟩ | exact ⟨rfl, _, Eq.trans (World.drewN_drewN _ _ _) (congrArg (World.drewN _) (Nat.add_assoc _ _ _))⟩)))
                   repeat (go_quiet (fail); try go_wp2_with (fail))
                   (refine Met.intro ?_; go_step; (repeat (first | apply ex_32 | apply ex_8 | apply Exists.intro)); refine ⟨?rel, rfl⟩)
                   case rel => exact ⟨_, ((qS != cG)), (Z11), H', ⟨Z51⟩, ⟨Z30 am⟩, ⟨Z30 ao⟩, ⟨Z45⟩, ⟨Z2⟩⟩
                 rw [if_neg c111] at H
                 have tn : (nb == fi) = false := beq_eq_false_iff_ne.mpr c111
                 have tp : (nb != fi) = true := bne_iff_ne.mpr c111
                 have H' := Aside0.mk H
                 clear H
                 obtain ⟨Ao127, co127, eo127⟩ := Kd.R_slice ao.out
                 subst eo127
                 obtain ⟨Ao128, co128, eo128⟩ := Kd.R_slice au.out
                 subst eo128
                 as_aux_lemma =>
                  go_wp2_with (first | (go_at_call 8; (with_reducible refine (laws_pSameTexts.calls bg _ _ bd _ _ dh true _ ?_ ?_ ?_ ?_ iv.out).mono ?_); exact (Z1 ao); exact (Kd.R_reads' ao.out).2.1; exact (Z1 au); exact (Kd.R_reads' au.out).2.1; rintro e w' ⟨rfl, ⟨nd, rfl⟩⟩; (try first | exact ⟨rfl, _, World.drewN_drewN _ _ _⟩ | exact ⟨rfl, _, Eq.trans (World.drewN_drewN _ _ _) (congrArg (World.drewN _) (Nat.add_assoc _ _ _))⟩); obtain ⟨wV, wW, nl⟩ := Kd.R_slice aE.out; subst nl; obtain ⟨wX, wY, nm⟩ := Kd.R_slice aK.out; subst nm) | (go_at_call 8; (with_reducible refine (laws_pSameTexts.calls bg _ _ bi _ _ ea true _ ?_ ?_ ?_ ?_ eY.out).mono ?_); exact (Z1 aE); exact (Kd.R_reads' aE.out).2.1; exact (Z1 aK); exact (Kd.R_reads' aK.out).2.1; rintro e w' ⟨rfl, ⟨nd, rfl⟩⟩; (try first | exact ⟨rfl, _, World.drewN_drewN _ _ _⟩ | exact ⟨rfl, _, Eq.trans (World.drewN_drewN _ _ _) (congrArg (World.drewN _) (Nat.add_assoc _ _ _))⟩)))
                  repeat (go_quiet (fail); try go_wp2_with (fail))
                  (refine Met.intro ?_; go_step; (repeat (first | apply ex_32 | apply ex_8 | apply Exists.intro)); refine ⟨?rel, rfl⟩)
                  case rel => exact ⟨_, (true), (Z11), H', ⟨Z51⟩, ⟨Z30 am⟩, ⟨Z30 ao⟩, ⟨Z45⟩, ⟨Z2⟩⟩
                replace c105 := Bool.eq_false_iff.mpr c105
                subst c105
                rw [if_neg (show ¬ (false = true) by decide)] at H
                have H' := Aside0.mk H
                clear H
                obtain ⟨Ao131, co131, eo131⟩ := Kd.R_slice ao.out
                subst eo131
                obtain ⟨Ao132, co132, eo132⟩ := Kd.R_slice au.out
                subst eo132
                as_aux_lemma =>
                 go_wp2_with (first | (go_at_call 8; (with_reducible refine (laws_pSameTexts.calls bg _ _ bd _ _ dh true _ ?_ ?_ ?_ ?_ iv.out).mono ?_); exact (Z1 ao); exact (Kd.R_reads' ao.out).2.1; exact (Z1 au); exact (Kd.R_reads' au.out).2.1; rintro e w' ⟨rfl, ⟨nd, rfl⟩⟩; (try first | exact ⟨rfl, _, World.drewN_drewN _ _ _⟩ | exact ⟨rfl, _, Eq.trans (World.drewN_drewN _ _ _) (congrArg (World.drewN _) (Nat.add_assoc _ _ _))⟩); obtain ⟨wZ, xa, nn⟩ := Kd.R_slice aE.out; subst nn; obtain ⟨xb, xc, np⟩ := Kd.R_slice aK.out; subst np) | (go_at_call 8; (with_reducible refine (laws_pSameTexts.calls bg _ _ bi _ _ ea false _ ?_ ?_ ?_ ?_ eY.out).mono ?_); exact (Z1 aE); exact (Kd.R_reads' aE.out).2.1; exact (Z1 aK); exact (Kd.R_reads' aK.out).2.1; rintro e w' ⟨rfl, ⟨nd, rfl⟩⟩; (try first | exact ⟨rfl, _, World.drewN_drewN _ _ _⟩ | exact ⟨rfl, _, Eq.trans (World.drewN_drewN _ _ _) (congrArg (World.drewN _) (Nat.add_assoc _ _ _))⟩)))
                 repeat (go_quiet (fail); try go_wp2_with (fail))
                 (refine Met.intro ?_; go_step; (repeat (first | apply ex_32 | apply ex_8 | apply Exists.intro)); refine ⟨?rel, rfl⟩)
                 case rel => exact ⟨_, (true), (Z11), H', ⟨Z51⟩, ⟨Z30 am⟩, ⟨Z30 ao⟩, ⟨Z45⟩, ⟨Z2⟩⟩
               replace c100 := Bool.eq_false_iff.mpr c100
               subst c100
               rw [if_neg (show ¬ (false = true) by decide)] at H
               have H' := Aside0.mk H
               clear H
               obtain ⟨Ao135, co135, eo135⟩ := Kd.R_slice ao.out
               subst eo135
               obtain ⟨Ao136, co136, eo136⟩ := Kd.R_slice au.out
               subst eo136
               as_aux_lemma =>
                go_wp2_with (go_at_call 8; (with_reducible refine (laws_pSameTexts.calls bg _ _ bd _ _ dh false _ ?_ ?_ ?_ ?_ iv.out).mono ?_); exact (Z1 ao); exact (Kd.R_reads' ao.out).2.1; exact (Z1 au); exact (Kd.R_reads' au.out).2.1; rintro e w' ⟨rfl, ⟨nd, rfl⟩⟩; (try first | exact ⟨rfl, _, World.drewN_drewN _ _ _⟩ | exact ⟨rfl, _, Eq.trans (World.drewN_drewN _ _ _) (congrArg (World.drewN _) (Nat.add_assoc _ _ _))⟩))
                repeat (go_quiet (fail); try go_wp2_with (fail))
                (refine Met.intro ?_; go_step; (repeat (first | apply ex_32 | apply ex_8 | apply Exists.intro)); refine ⟨?rel, rfl⟩)
                case rel => exact ⟨_, (true), (Z11), H', ⟨Z51⟩, ⟨Z30 am⟩, ⟨Z30 ao⟩, ⟨Z45⟩, ⟨Z2⟩⟩
             case rest =>
              as_aux_lemma =>
               clear HC91
               obtain ⟨kq, iu, rfl, HA, HJ90, ar, aq, al, HB⟩ := hcut
               cases kq with
               | zero => exact absurd HA.out (by simp [laws_FnScans.j8])
               | succ bk =>
                have H := HA.out
                clear HA
                simp only [laws_FnScans.j8] at H
                by_cases c137 : iu = true
                ·subst c137
                 rw [if_pos rfl] at H
                 obtain rfl := Option.some.inj H
                 as_aux_lemma =>
                  go_wp2
                  repeat (go_quiet (fail); try go_wp2)
                  go_ret
                  exact ⟨Z9, Z2⟩
                replace c137 := Bool.eq_false_iff.mpr c137
                subst c137
                rw [if_neg (show ¬ (false = true) by decide)] at H
                by_cases c138 : cG = true
                ·subst c138
                 rw [if_pos rfl] at H
                 obtain ⟨⟨uT, t717⟩, eb, H⟩ := bd_ H
                 (try dsimp only at H)
                 obtain ⟨⟨jU, pl⟩, cu, H⟩ := bd_ H
                 (try dsimp only at H)
                 obtain ⟨⟨cK, gV⟩, ec, H⟩ := bd_ H
                 (try dsimp only at H)
                 by_cases c142 : t717 = true
                 ·subst c142
                  rw [if_pos rfl] at H
                  by_cases c143 : uT = true
                  ·subst c143
                   rw [if_pos rfl] at H
                   by_cases c144 : pl = true
                   ·subst c144
                    rw [if_pos rfl] at H
                    by_cases c145 : jU = true
                    ·subst c145
                     rw [if_pos rfl] at H
                     by_cases c146 : gV = true
                     ·subst c146
                      rw [if_pos rfl] at H
                      by_cases c147 : (cK != (fi == 0)) = true
                      ·rw [if_pos c147] at H
                       have c147b0 : (cK != (fi == 0)) = true := c147
                       (try (have c147b1 : decide (cK = (fi == 0)) = false := by simpa using c147))
                       (try (have c147b2 : (cK == (fi == 0)) = false := by simpa using c147))
                       (try (have c147b3 : ¬ (cK = (fi == 0)) := by simpa using c147))
                       clear c147
                       obtain rfl := Option.some.inj H
                       obtain ⟨Ao148, co148, eo148⟩ := Kd.R_slice aq.out
                       subst eo148
                       as_aux_lemma =>
                        go_wp2_with (first | (go_at_call 25; (with_reducible refine (impl_AgreeScans.calls bk _ _ bd _ _ aJ true true _ ?_ ?_ ?_ ?_ eb.out).mono ?_); exact (Z1 aq); exact (Kd.R_reads' aq.out).2.1; exact (Z1 ar); exact (Kd.R_reads' ar.out).2.1; rintro e w' ⟨rfl, ⟨nd, rfl⟩⟩; (try first | exact ⟨rfl, _, World.drewN_drewN _ _ _⟩ | exact ⟨rfl, _, Eq.trans (World.drewN_drewN _ _ _) (congrArg (World.drewN _) (Nat.add_assoc _ _ _))⟩); obtain ⟨xg, xh, nq⟩ := Kd.R_slice al.out; subst nq) | (go_at_call 25; (with_reducible refine (impl_AgreeScans.calls bk _ _ aJ _ _ bi true true _ ?_ ?_ ?_ ?_ cu.out).mono ?_); exact (Z1 ar); exact (Kd.R_reads' ar.out).2.1; exact (Z1 al); exact (Kd.R_reads' al.out).2.1; rintro e w' ⟨rfl, ⟨nd, rfl⟩⟩; (try first | exact ⟨rfl, _, World.drewN_drewN _ _ _⟩ | exact ⟨rfl, _, Eq.trans (World.drewN_drewN _ _ _) (congrArg (World.drewN _) (Nat.add_assoc _ _ _))⟩)) | (go_at_call 25; (with_reducible refine (impl_AgreeScans.calls bk _ _ bd _ _ bi cK true _ ?_ ?_ ?_ ?_ ec.out).mono ?_); exact (Z1 aq); exact (Kd.R_reads' aq.out).2.1; exact (Z1 al); exact (Kd.R_reads' al.out).2.1; rintro e w' ⟨rfl, ⟨nd, rfl⟩⟩; (try first | exact ⟨rfl, _, World.drewN_drewN _ _ _⟩ | exact ⟨rfl, _, Eq.trans (World.drewN_drewN _ _ _) (congrArg (World.drewN _) (Nat.add_assoc _ _ _))⟩)))
                        repeat (go_quiet (fail); try go_wp2_with (fail))
                        go_ret
                        exact ⟨Z9, Z2⟩
                      rw [if_neg c147] at H
                      have c147b0 : (cK != (fi == 0)) = false := by simpa using c147
                      (try (have c147b1 : decide (cK = (fi == 0)) = true := by simpa using c147))
                      (try (have c147b2 : (cK == (fi == 0)) = true := by simpa using c147))
                      clear c147
                      obtain rfl := Option.some.inj H
                      obtain ⟨Ao150, co150, eo150⟩ := Kd.R_slice aq.out
                      subst eo150
                      as_aux_lemma =>
                       go_wp2_with (first | (go_at_call 25; (with_reducible refine (impl_AgreeScans.calls bk _ _ bd _ _ aJ true true _ ?_ ?_ ?_ ?_ eb.out).mono ?_); exact (Z1 aq); exact (Kd.R_reads' aq.out).2.1; exact (Z1 ar); exact (Kd.R_reads' ar.out).2.1; rintro e w' ⟨rfl, ⟨nd, rfl⟩⟩; (try first | exact ⟨rfl, _, World.drewN_drewN _ _ _⟩ | exact ⟨rfl, _, Eq.trans (World.drewN_drewN _ _ _) (congrArg (World.drewN _) (Nat.add_assoc _ _ _))⟩); obtain ⟨xi, xj, nr⟩ := Kd.R_slice al.out; subst nr) | (go_at_call 25; (with_reducible refine (impl_AgreeScans.calls bk _ _ aJ _ _ bi true true _ ?_ ?_ ?_ ?_ cu.out).mono ?_); exact (Z1 ar); exact (Kd.R_reads' ar.out).2.1; exact (Z1 al); exact (Kd.R_reads' al.out).2.1; rintro e w' ⟨rfl, ⟨nd, rfl⟩⟩; (try first | exact ⟨rfl, _, World.drewN_drewN _ _ _⟩ | exact ⟨rfl, _, Eq.trans (World.drewN_drewN _ _ _) (congrArg (World.drewN _) (Nat.add_assoc _ _ _))⟩)) | (go_at_call 25; (with_reducible refine (impl_AgreeScans.calls bk _ _ bd _ _ bi cK true _ ?_ ?_ ?_ ?_ ec.out).mono ?_); exact (Z1 aq); exact (Kd.R_reads' aq.out).2.1; exact (Z1 al); exact (Kd.R_reads' al.out).2.1; rintro e w' ⟨rfl, ⟨nd, rfl⟩⟩; (try first | exact ⟨rfl, _, World.drewN_drewN _ _ _⟩ | exact ⟨rfl, _, Eq.trans (World.drewN_drewN _ _ _) (congrArg (World.drewN _) (Nat.add_assoc _ _ _))⟩)))
                       repeat (go_quiet (fail); try go_wp2_with (fail))
                       go_ret
                       exact ⟨Z9, Z2⟩
                     replace c146 := Bool.eq_false_iff.mpr c146
                     subst c146
                     rw [if_neg (show ¬ (false = true) by decide)] at H
                     obtain rfl := Option.some.inj H
                     obtain ⟨Ao152, co152, eo152⟩ := Kd.R_slice aq.out
                     subst eo152
                     as_aux_lemma =>
                      go_wp2_with (first | (go_at_call 25; (with_reducible refine (impl_AgreeScans.calls bk _ _ bd _ _ aJ true true _ ?_ ?_ ?_ ?_ eb.out).mono ?_); exact (Z1 aq); exact (Kd.R_reads' aq.out).2.1; exact (Z1 ar); exact (Kd.R_reads' ar.out).2.1; rintro e w' ⟨rfl, ⟨nd, rfl⟩⟩; (try first | exact ⟨rfl, _, World.drewN_drewN _ _ _⟩ | exact ⟨rfl, _, Eq.trans (World.drewN_drewN _ _ _) (congrArg (World.drewN _) (Nat.add_assoc _ _ _))⟩); obtain ⟨xk, xl, nt⟩ := Kd.R_slice al.out; subst nt) | (go_at_call 25; (with_reducible refine (impl_AgreeScans.calls bk _ _ aJ _ _ bi true true _ ?_ ?_ ?_ ?_ cu.out).mono ?_); exact (Z1 ar); exact (Kd.R_reads' ar.out).2.1; exact (Z1 al); exact (Kd.R_reads' al.out).2.1; rintro e w' ⟨rfl, ⟨nd, rfl⟩⟩; (try first | exact ⟨rfl, _, World.drewN_drewN _ _ _⟩ | exact ⟨rfl, _, Eq.trans (World.drewN_drewN _ _ _) (congrArg (World.drewN _) (Nat.add_assoc _ _ _))⟩)) | (go_at_call 25; (with_reducible refine (impl_AgreeScans.calls bk _ _ bd _ _ bi cK false _ ?_ ?_ ?_ ?_ ec.out).mono ?_); exact (Z1 aq); exact (Kd.R_reads' aq.out).2.1; exact (Z1 al); exact (Kd.R_reads' al.out).2.1; rintro e w' ⟨rfl, ⟨nd, rfl⟩⟩; (try first | exact ⟨rfl, _, World.drewN_drewN _ _ _⟩ | exact ⟨rfl, _, Eq.trans (World.drewN_drewN _ _ _) (congrArg (World.drewN _) (Nat.add_assoc _ _ _))⟩)))
                      repeat (go_quiet (fail); try go_wp2_with (fail))
                      go_ret
                      exact ⟨Z9, Z2⟩
                    replace c145 := Bool.eq_false_iff.mpr c145
                    subst c145
                    rw [if_neg (show ¬ (false = true) by decide)] at H
                    obtain rfl := Option.some.inj H
                    obtain ⟨Ao154, co154, eo154⟩ := Kd.R_slice aq.out
                    subst eo154
                    as_aux_lemma =>
                     go_wp2_with (first | (go_at_call 25; (with_reducible refine (impl_AgreeScans.calls bk _ _ bd _ _ aJ true true _ ?_ ?_ ?_ ?_ eb.out).mono ?_); exact (Z1 aq); exact (Kd.R_reads' aq.out).2.1; exact (Z1 ar); exact (Kd.R_reads' ar.out).2.1; rintro e w' ⟨rfl, ⟨nd, rfl⟩⟩; (try first | exact ⟨rfl, _, World.drewN_drewN _ _ _⟩ | exact ⟨rfl, _, Eq.trans (World.drewN_drewN _ _ _) (congrArg (World.drewN _) (Nat.add_assoc _ _ _))⟩); obtain ⟨xm, xn, nu⟩ := Kd.R_slice al.out; subst nu) | (go_at_call 25; (with_reducible refine (impl_AgreeScans.calls bk _ _ aJ _ _ bi false true _ ?_ ?_ ?_ ?_ cu.out).mono ?_); exact (Z1 ar); exact (Kd.R_reads' ar.out).2.1; exact (Z1 al); exact (Kd.R_reads' al.out).2.1; rintro e w' ⟨rfl, ⟨nd, rfl⟩⟩; (try first | exact ⟨rfl, _, World.drewN_drewN _ _ _⟩ | exact ⟨rfl, _, Eq.trans (World.drewN_drewN _ _ _) (congrArg (World.drewN _) (Nat.add_assoc _ _ _))⟩)) | (go_at_call 25; (with_reducible refine (impl_AgreeScans.calls bk _ _ bd _ _ bi cK gV _ ?_ ?_ ?_ ?_ ec.out).mono ?_); exact (Z1 aq); exact (Kd.R_reads' aq.out).2.1; exact (Z1 al); exact (Kd.R_reads' al.out).2.1; rintro e w' ⟨rfl, ⟨nd, rfl⟩⟩; (try first | exact ⟨rfl, _, World.drewN_drewN _ _ _⟩ | exact ⟨rfl, _, Eq.trans (World.drewN_drewN _ _ _) (congrArg (World.drewN _) (Nat.add_assoc _ _ _))⟩)))
                     repeat (go_quiet (fail); try go_wp2_with (fail))
                     go_ret
                     exact ⟨Z9, Z2⟩
                   replace c144 := Bool.eq_false_iff.mpr c144
                   subst c144
                   rw [if_neg (show ¬ (false = true) by decide)] at H
                   obtain rfl := Option.some.inj H
                   obtain ⟨Ao156, co156, eo156⟩ := Kd.R_slice aq.out
                   subst eo156
                   as_aux_lemma =>
                    go_wp2_with (first | (go_at_call 25; (with_reducible refine (impl_AgreeScans.calls bk _ _ bd _ _ aJ true true _ ?_ ?_ ?_ ?_ eb.out).mono ?_); exact (Z1 aq); exact (Kd.R_reads' aq.out).2.1; exact (Z1 ar); exact (Kd.R_reads' ar.out).2.1; rintro e w' ⟨rfl, ⟨nd, rfl⟩⟩; (try first | exact ⟨rfl, _, World.drewN_drewN _ _ _⟩ | exact ⟨rfl, _, Eq.trans (World.drewN_drewN _ _ _) (congrArg (World.drewN _) (Nat.add_assoc _ _ _))⟩); obtain ⟨xo, xp, nv⟩ := Kd.R_slice al.out; subst nv) | (go_at_call 25; (with_reducible refine (impl_AgreeScans.calls bk _ _ aJ _ _ bi jU false _ ?_ ?_ ?_ ?_ cu.out).mono ?_); exact (Z1 ar); exact (Kd.R_reads' ar.out).2.1; exact (Z1 al); exact (Kd.R_reads' al.out).2.1; rintro e w' ⟨rfl, ⟨nd, rfl⟩⟩; (try first | exact ⟨rfl, _, World.drewN_drewN _ _ _⟩ | exact ⟨rfl, _, Eq.trans (World.drewN_drewN _ _ _) (congrArg (World.drewN _) (Nat.add_assoc _ _ _))⟩)) | (go_at_call 25; (with_reducible refine (impl_AgreeScans.calls bk _ _ bd _ _ bi cK gV _ ?_ ?_ ?_ ?_ ec.out).mono ?_); exact (Z1 aq); exact (Kd.R_reads' aq.out).2.1; exact (Z1 al); exact (Kd.R_reads' al.out).2.1; rintro e w' ⟨rfl, ⟨nd, rfl⟩⟩; (try first | exact ⟨rfl, _, World.drewN_drewN _ _ _⟩ | exact ⟨rfl, _, Eq.trans (World.drewN_drewN _ _ _) (congrArg (World.drewN _) (Nat.add_assoc _ _ _))⟩)))
                    repeat (go_quiet (fail); try go_wp2_with (fail))
                    go_ret
                    exact ⟨Z9, Z2⟩
                  replace c143 := Bool.eq_false_iff.mpr c143
                  subst c143
                  rw [if_neg (show ¬ (false = true) by decide)] at H
                  obtain rfl := Option.some.inj H
                  obtain ⟨Ao158, co158, eo158⟩ := Kd.R_slice aq.out
                  subst eo158
                  as_aux_lemma =>
                   go_wp2_with (first | (go_at_call 25; (with_reducible refine (impl_AgreeScans.calls bk _ _ bd _ _ aJ false true _ ?_ ?_ ?_ ?_ eb.out).mono ?_); exact (Z1 aq); exact (Kd.R_reads' aq.out).2.1; exact (Z1 ar); exact (Kd.R_reads' ar.out).2.1; rintro e w' ⟨rfl, ⟨nd, rfl⟩⟩; (try first | exact ⟨rfl, _, World.drewN_drewN _ _ _⟩ | exact ⟨rfl, _, Eq.trans (World.drewN_drewN _ _ _) (congrArg (World.drewN _) (Nat.add_assoc _ _ _))⟩); obtain ⟨xq, xr, nw⟩ := Kd.R_slice al.out; subst nw) | (go_at_call 25; (with_reducible refine (impl_AgreeScans.calls bk _ _ aJ _ _ bi jU pl _ ?_ ?_ ?_ ?_ cu.out).mono ?_); exact (Z1 ar); exact (Kd.R_reads' ar.out).2.1; exact (Z1 al); exact (Kd.R_reads' al.out).2.1; rintro e w' ⟨rfl, ⟨nd, rfl⟩⟩; (try first | exact ⟨rfl, _, World.drewN_drewN _ _ _⟩ | exact ⟨rfl, _, Eq.trans (World.drewN_drewN _ _ _) (congrArg (World.drewN _) (Nat.add_assoc _ _ _))⟩)) | (go_at_call 25; (with_reducible refine (impl_AgreeScans.calls bk _ _ bd _ _ bi cK gV _ ?_ ?_ ?_ ?_ ec.out).mono ?_); exact (Z1 aq); exact (Kd.R_reads' aq.out).2.1; exact (Z1 al); exact (Kd.R_reads' al.out).2.1; rintro e w' ⟨rfl, ⟨nd, rfl⟩⟩; (try first | exact ⟨rfl, _, World.drewN_drewN _ _ _⟩ | exact ⟨rfl, _, Eq.trans (World.drewN_drewN _ _ _) (congrArg (World.drewN _) (Nat.add_assoc _ _ _))⟩)))
                   repeat (go_quiet (fail); try go_wp2_with (fail))
                   go_ret
                   exact ⟨Z9, Z2⟩
                 replace c142 := Bool.eq_false_iff.mpr c142
                 subst c142
                 rw [if_neg (show ¬ (false = true) by decide)] at H
                 obtain rfl := Option.some.inj H
                 obtain ⟨Ao160, co160, eo160⟩ := Kd.R_slice aq.out
                 subst eo160
                 as_aux_lemma =>
                  go_wp2_with (first | (go_at_call 25; (with_reducible refine (impl_AgreeScans.calls bk _ _ bd _ _ aJ uT false _ ?_ ?_ ?_ ?_ eb.out).mono ?_); exact (Z1 aq); exact (Kd.R_reads' aq.out).2.1; exact (Z1 ar); exact (Kd.R_reads' ar.out).2.1; rintro e w' ⟨rfl, ⟨nd, rfl⟩⟩; (try first | exact ⟨rfl, _, World.drewN_drewN _ _ _⟩ | exact ⟨rfl, _, Eq.trans (World.drewN_drewN _ _ _) (congrArg (World.drewN _) (Nat.add_assoc _ _ _))⟩); obtain ⟨xt, xu, nx⟩ := Kd.R_slice al.out; subst nx) | (go_at_call 25; (with_reducible refine (impl_AgreeScans.calls bk _ _ aJ _ _ bi jU pl _ ?_ ?_ ?_ ?_ cu.out).mono ?_); exact (Z1 ar); exact (Kd.R_reads' ar.out).2.1; exact (Z1 al); exact (Kd.R_reads' al.out).2.1; rintro e w' ⟨rfl, ⟨nd, rfl⟩⟩; (try first | exact ⟨rfl, _, World.drewN_drewN _ _ _⟩ | exact ⟨rfl, _, Eq.trans (World.drewN_drewN _ _ _) (congrArg (World.drewN _) (Nat.add_assoc _ _ _))⟩)) | (go_at_call 25; (with_reducible refine (impl_AgreeScans.calls bk _ _ bd _ _ bi cK gV _ ?_ ?_ ?_ ?_ ec.out).mono ?_); exact (Z1 aq); exact (Kd.R_reads' aq.out).2.1; exact (Z1 al); exact (Kd.R_reads' al.out).2.1; rintro e w' ⟨rfl, ⟨nd, rfl⟩⟩; (try first | exact ⟨rfl, _, World.drewN_drewN _ _ _⟩ | exact ⟨rfl, _, Eq.trans (World.drewN_drewN _ _ _) (congrArg (World.drewN _) (Nat.add_assoc _ _ _))⟩)))
                  repeat (go_quiet (fail); try go_wp2_with (fail))
                  go_ret
                  exact ⟨Z9, Z2⟩
                replace c138 := Bool.eq_false_iff.mpr c138
                subst c138
                rw [if_neg (show ¬ (false = true) by decide)] at H
                obtain rfl := Option.some.inj H
                as_aux_lemma =>
                 go_wp2
                 repeat (go_quiet (fail); try go_wp2)
                 go_ret
                 exact ⟨Z9, Z2⟩

/-- THE ONE PURE STATEMENT of laws_FnScans: yours. -/
theorem laws_FnScans.walk (P : laws_FnScans.Pure) (a0 : Option Addr) (len0 cap0 : Nat) (z0 : List Int) (a1 : Option Addr) (len1 cap1 : Nat) (z1 : List Int) (w : World) (w0 : (a0 = none ∧ len0 = 0 ∧ cap0 = 0 ∧ z0 = []) ∨ ∃ x, a0 = some x ∧ len0 ≤ cap0 ∧ cap0 ≤ maxLen ∧ z0.length = cap0 ∧ (∀ i, i < z0.length → w.cell? (x.add i) = some (.int .u8 (z0.getD i 0))) ∧ ∀ n ∈ z0, (Lit.int .u8 n).wf = true) (y0 : len0 * 1 ≤ 140737488351232) (w1 : (a1 = none ∧ len1 = 0 ∧ cap1 = 0 ∧ z1 = []) ∨ ∃ x, a1 = some x ∧ len1 ≤ cap1 ∧ cap1 ≤ maxLen ∧ z1.length = cap1 ∧ (∀ i, i < z1.length → w.cell? (x.add i) = some (.int .u8 (z1.getD i 0))) ∧ ∀ n ∈ z1, (Lit.int .u8 n).wf = true) (y1 : len1 * 1 ≤ 140737488351232) :
  Calls Tryz.prog 3 #[.slice a0 len0 cap0, .slice a1 len1 cap1] w fun e w' => e = .returned (.bool true) ∧ Below w.heap.size w w' := by
 obtain ⟨l0, rfl, hr0, hm0, hw0, hc0⟩ := ReadsInt.ofRowC w0
 obtain ⟨l1, rfl, hr1, hm1, hw1, hc1⟩ := ReadsInt.ofRowC w1
 obtain ⟨k, h⟩ := P l0 l1 hm0 y0 hw0 hm1 y1 hw1
 refine (laws_FnScans.calls k _ _ l0 _ _ l1 true w (Kd.C_of_reads (d := (0 : Int)) (h1 := fun _ => rfl) hr0) hc0 (Kd.C_of_reads (d := (0 : Int)) (h1 := fun _ => rfl) hr1) hc1 h).mono ?_
 rintro e w' ⟨rfl, hd⟩
 exact ⟨rfl, hd⟩

end Go.Proofs.YtcpbncljimmkfaaGreatDoor.PFnScans
