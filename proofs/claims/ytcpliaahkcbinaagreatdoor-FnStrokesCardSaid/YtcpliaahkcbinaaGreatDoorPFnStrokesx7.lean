import Derived.Test.YtcpliaahkcbinaaGreatDoorPFnStrokesx0
import Derived.Test.YtcpliaahkcbinaaGreatDoorPFnStrokesx2
import Derived.Test.YtcpliaahkcbinaaGreatDoorPFnStrokesx3
import Derived.Test.YtcpliaahkcbinaaGreatDoorPFnStrokesx4
import Derived.Test.YtcpliaahkcbinaaGreatDoorPFnStrokesx5
import Derived.Test.YtcpliaahkcbinaaGreatDoorPFnStrokesx6
namespace Go.Proofs.YtcpliaahkcbinaaGreatDoor.PFnStrokes
open Go.RowKit Go.Proofs.YtcpliaahkcbinaaGreatDoorW.PrintWords Go.Proofs.YtcpliaahkcbinaaGreatDoorW.PrintLast Go.Proofs.YtcpliaahkcbinaaGreatDoorW.PrintMore
attribute [local go_sem] dS_ dV_ eo_ em_ dw_ dx_ dX_ dU_
set_option linter.unusedVariables false
set_option linter.unusedSimpArgs false
attribute [local go_sem high] kE_
theorem dq_ {α : Type} {p : α → α → α → α → α → α → α → α → α → α → α → α → α → α → α → α → α → α → α → α → α → α → α → α → α → α → α → α → α → α → α → α → Prop} (a0 a1 a2 a3 a4 a5 a6 a7 a8 a9 a10 a11 a12 a13 a14 a15 a16 a17 a18 a19 a20 a21 a22 a23 a24 a25 a26 a27 a28 a29 a30 a31 : α) (h : p a0 a1 a2 a3 a4 a5 a6 a7 a8 a9 a10 a11 a12 a13 a14 a15 a16 a17 a18 a19 a20 a21 a22 a23 a24 a25 a26 a27 a28 a29 a30 a31) : ∃ a0 a1 a2 a3 a4 a5 a6 a7 a8 a9 a10 a11 a12 a13 a14 a15 a16 a17 a18 a19 a20 a21 a22 a23 a24 a25 a26 a27 a28 a29 a30 a31, p a0 a1 a2 a3 a4 a5 a6 a7 a8 a9 a10 a11 a12 a13 a14 a15 a16 a17 a18 a19 a20 a21 a22 a23 a24 a25 a26 a27 a28 a29 a30 a31 := ⟨a0, a1, a2, a3, a4, a5, a6, a7, a8, a9, a10, a11, a12, a13, a14, a15, a16, a17, a18, a19, a20, a21, a22, a23, a24, a25, a26, a27, a28, a29, a30, a31, h⟩
theorem d8_ {α : Type} {p : α → α → α → α → α → α → α → α → Prop} (a0 a1 a2 a3 a4 a5 a6 a7 : α) (h : p a0 a1 a2 a3 a4 a5 a6 a7) : ∃ a0 a1 a2 a3 a4 a5 a6 a7, p a0 a1 a2 a3 a4 a5 a6 a7 := ⟨a0, a1, a2, a3, a4, a5, a6, a7, h⟩
set_option maxHeartbeats 100000000 in
set_option maxRecDepth 100000 in
theorem laws_FnStrokes.calls (k : Nat) (A0 : Option Addr) (c0 : Nat) (l0 : List Int) (A1 : Option Addr) (c1 : Nat) (l1 : List Int) (r : Bool) (w : World) (hr0 : Kd.C (Kd.int .u8) w A0 l0.length l0) (hc0 : l0.length ≤ c0) (hr1 : Kd.C (Kd.int .u8) w A1 l1.length l1) (hc1 : l1.length ≤ c1) (h : laws_FnStrokes.f k l0 l1 = some r) (hT : Go.Lib.TabIs Tryz.prog w "internal/strconv.uint64pow10" .u64 Go.Lib.pow10Tab) :
  Calls Tryz.prog 3 #[.slice A0 l0.length c0, .slice A1 l1.length c1] w fun e w' => e = .returned (.bool r) ∧ Below w.heap.size w w' := by
 have hu42 := Tryz.underlying42
 have HT := aa_.mk hT
 clear hT
 have HR0 := aa_.mk hr0
 have HC0 := aa_.mk hc0
 clear hr0 hc0
 have HR1 := aa_.mk hr1
 have HC1 := aa_.mk hc1
 clear hr1 hc1
 have HB := aa_.mk (Below.refl w.heap.size w)
 have H : ((do_.f l0 l1).bind fun Ax => (if Ax = true then (some true) else ((bu_.f k l0).bind fun b6 => ((bE_.f k b6).bind fun fY => ((bG_.f k b6).bind fun lr => (if (fY.2 != lr.2) = true then (laws_FnStrokes.j0 k l1 b6 fY.1 fY.2 lr.1 true) else ((aI_.f k fY.1 lr.1).bind fun sL => (laws_FnStrokes.j0 k l1 b6 fY.1 fY.2 lr.1 (!sL))))))))) = some r := h
 clear h
 replace H := bd_ H; obtain ⟨Ax, A3, H⟩ := H
 replace H := it_ H; obtain ⟨rfl, H⟩ | ⟨rfl, H⟩ := H
 ·obtain rfl := Option.some.inj H
  go_enter Tryz.func3, Tryz.ntmps3
  as_aux_lemma =>
   go_wp2_with ((go_at_call 4; (with_reducible refine (do_.calls _ _ l0 _ _ l1 true _ ?_ ?_ ?_ ?_ A3.out).mono ?_); exact (Z15 HR0); exact HC0.out; exact (Z15 HR1); exact HC1.out; rintro e w' ⟨rfl, ⟨nd, rfl⟩⟩; (try first | exact ⟨rfl, _, dA_⟩ | exact ⟨rfl, _, dB_⟩)))
   repeat (go_quiet (fail); try go_wp2_with (fail))
   go_ret
   exact ⟨Z9, Z2⟩
 replace H := bd_ H; obtain ⟨b6, A5, H⟩ := H
 replace H := bd_ H; obtain ⟨⟨bJ, lZ⟩, A6, H⟩ := H
 (try dsimp only at H)
 replace H := bd_ H; obtain ⟨⟨cw, oe⟩, A7, H⟩ := H
 (try dsimp only at H)
 have HC8 := aa_.mk H
 clear H
 go_enter Tryz.func3, Tryz.ntmps3
 go_upto_region 6 with (first | (go_at_call 4; (with_reducible refine (do_.calls _ _ l0 _ _ l1 false _ ?_ ?_ ?_ ?_ A3.out).mono ?_); exact (Z15 HR0); exact HC0.out; exact (Z15 HR1); exact HC1.out; rintro e w' ⟨rfl, ⟨nd, rfl⟩⟩; (try first | exact ⟨rfl, _, dA_⟩ | exact ⟨rfl, _, dB_⟩)) | (go_at_call 5; (with_reducible refine (bu_.calls k _ _ l0 b6 _ ?_ ?_ A5.out).mono ?_); exact (Z15 HR0); exact HC0.out; rintro e w9 ⟨KQ, rfl, ho0, hb⟩; refine k2_ Wo_ Ws_ ?_; clear HB; intro ce HB; (try clear hb ho0); obtain ⟨xf, uG, mI⟩ := Kd.pW_ ce.out; subst mI) | (go_at_call 6; (with_reducible refine (bE_.calls k _ _ b6 bJ lZ _ ?_ ?_ A6.out).mono ?_); exact (Z3 ce); exact (Kd.pV_ ce.out).2.1; rintro e nI ⟨CB, rfl, ho0, hb⟩; refine k3_ (Ya_ ce) Wo_ Ws_ ?_; clear ce HB; intro ce dk HB; (try clear hb ho0)) | (go_at_call 7; (with_reducible refine (bG_.calls k _ _ b6 cw oe _ ?_ ?_ A7.out).mono ?_); exact (Z3 ce); exact (Kd.pV_ ce.out).2.1; rintro e qT ⟨CC, rfl, ho0, hb⟩; refine k4_ (Ya_ ce) (Yb_ dk) (Wa_ dk) Ws_ ?_; clear ce dk HB; intro ce dk ia HB; (try clear hb ho0)))
 repeat (go_quiet (fail); go_upto_region 6 with (fail))
 (try simp only [Act.put, List.setIfInBounds_toArray, List.set_cons_zero, List.set_cons_succ])
 go_cut [70] (fun v70 wc => ∃ (kq : Nat) (wP : Bool), v70 = .bool wP ∧ aa_ (laws_FnStrokes.j0 kq l1 b6 bJ lZ cw wP = some r) ∧ aa_ (kq ≤ k) ∧ aa_ (Kd.R k61 61 wc w.heap.size (fun _ => True) (.slice xf b6.length uG) b6) ∧ aa_ (Kd.R k42 42 wc w.heap.size (fun k_ => some k_ ≠ (CC : Value).ownBlock) CB bJ) ∧ aa_ (Kd.R k42 42 wc w.heap.size (fun k_ => some k_ ≠ (CB : Value).ownBlock) CC cw) ∧ aa_ (Below w.heap.size w wc))
 case first =>
  as_aux_lemma =>
   have H := HC8.out
   clear HC8
   replace H := iw_ H; obtain ⟨c13, H⟩ | ⟨c13, H⟩ := H
   ·have ew : (lZ != oe) = true := c13
    (try (have Ar : decide (lZ = oe) = false := by simpa using c13))
    (try (have As : (lZ == oe) = false := by simpa using c13))
    (try (have At : ¬ (lZ = oe) := by simpa using c13))
    clear c13
    (first | rw [ew] | (simp only [bA_, ch_]; rw [ew]) | skip)
    have H' := aa_.mk H
    clear H
    as_aux_lemma =>
     go_wp2
     repeat (go_quiet (fail); try go_wp2)
     (refine Met.intro ?_; go_step; (repeat (first | apply dq_ | apply d8_ | apply Exists.intro)); refine ⟨?rel, rfl⟩)
     case rel => exact ⟨_, (true), (Z14), H', ⟨d7_⟩, ⟨Z1 ce⟩, ⟨Z61 dk⟩, ⟨Z61 ia⟩, ⟨Z2⟩⟩
   have ew : (lZ != oe) = false := by simpa using c13
   (try (have Ar : decide (lZ = oe) = true := by simpa using c13))
   (try (have As : (lZ == oe) = true := by simpa using c13))
   clear c13
   (first | rw [ew] | (simp only [bA_, ch_]; rw [ew]) | skip)
   replace H := bd_ H; obtain ⟨sL, pD, H⟩ := H
   have H' := aa_.mk H
   clear H
   obtain ⟨nG, jG, jH⟩ := Kd.pW_ dk.out
   subst jH
   obtain ⟨KR, KS, CD⟩ := Kd.pW_ ia.out
   subst CD
   as_aux_lemma =>
    go_wp2_with ((go_at_call 8; (with_reducible refine (aI_.calls k _ _ bJ _ _ cw sL _ ?_ ?_ ?_ ?_ pD.out).mono ?_); exact (Z3 dk); exact (Kd.pV_ dk.out).2.1; exact (Z3 ia); exact (Kd.pV_ ia.out).2.1; rintro e w' ⟨rfl, ⟨nd, rfl⟩⟩; (try first | exact ⟨rfl, _, dA_⟩ | exact ⟨rfl, _, dB_⟩)))
    repeat (go_quiet (fail); try go_wp2_with (fail))
    (refine Met.intro ?_; go_step; (repeat (first | apply dq_ | apply d8_ | apply Exists.intro)); refine ⟨?rel, rfl⟩)
    case rel => exact ⟨_, (!sL), (Z14), H', ⟨d7_⟩, ⟨Z1 ce⟩, ⟨Z61 dk⟩, ⟨Z61 ia⟩, ⟨Z2⟩⟩
 case rest =>
  as_aux_lemma =>
   clear HC8
   (try clear c1)
   obtain ⟨kq, wP, rfl, HA, Gl, aa, ac, af, HB⟩ := hcut
   cases kq with
   | zero => exact absurd HA.out (by simp [laws_FnStrokes.j0])
   | succ bp =>
    have H := HA.out
    clear HA
    simp only [laws_FnStrokes.j0] at H
    replace H := it_ H; obtain ⟨rfl, H⟩ | ⟨rfl, H⟩ := H
    ·obtain rfl := Option.some.inj H
     as_aux_lemma =>
      go_wp2
      repeat (go_quiet (fail); try go_wp2)
      go_ret
      exact ⟨Z9, Z2⟩
    have HC18 := aa_.mk H
    clear H
    go_upto_if 71 with (fail)
    repeat (go_quiet (fail); go_upto_if 71 with (fail))
    go_cut [] (fun wc => ∃ (kq : Nat), aa_ (laws_FnStrokes.j1 kq l1 = some r) ∧ aa_ (kq ≤ bp) ∧ aa_ (Below w.heap.size w wc))
    case first =>
     as_aux_lemma =>
      have H := HC18.out
      clear HC18
      replace H := it_ H; obtain ⟨rfl, H⟩ | ⟨rfl, H⟩ := H
      ·replace H := bd_ H; obtain ⟨⟨cb, t716⟩, b5, H⟩ := H
       (try dsimp only at H)
       replace H := bd_ H; obtain ⟨⟨bD, vC⟩, gL, H⟩ := H
       (try dsimp only at H)
       replace H := bd_ H; obtain ⟨⟨cf, oN⟩, i7, H⟩ := H
       (try dsimp only at H)
       replace H := bd_ H; obtain ⟨⟨cX, gz⟩, jz, H⟩ := H
       (try dsimp only at H)
       replace H := it_ H; obtain ⟨rfl, H⟩ | ⟨rfl, H⟩ := H
       ·replace H := bd_ H; obtain ⟨Iw, la, H⟩ := H
        replace H := it_ H; obtain ⟨rfl, H⟩ | ⟨rfl, H⟩ := H
        ·replace H := it_ H; obtain ⟨rfl, H⟩ | ⟨rfl, H⟩ := H
         ·replace H := it_ H; obtain ⟨rfl, H⟩ | ⟨rfl, H⟩ := H
          ·replace H := bd_ H; obtain ⟨Ix, lO, H⟩ := H
           replace H := it_ H; obtain ⟨rfl, H⟩ | ⟨rfl, H⟩ := H
           ·replace H := iw_ H; obtain ⟨c31, H⟩ | ⟨c31, H⟩ := H
            ·have mh : ((cf.length : Int) == (cw.length : Int)) = true := beq_iff_eq.mpr c31
             have Eo : ((cf.length : Int) != (cw.length : Int)) = false := bne_eq_false_iff_eq.mpr c31
             have Ep : (cf.length == cw.length) = true := by first | simpa using c31 | (simp at c31 ⊢; omega)
             clear c31
             (first | rw [mh] | (simp only [bA_, ch_]; rw [mh]) | skip)
             replace H := it_ H; obtain ⟨rfl, H⟩ | ⟨rfl, H⟩ := H
             ·replace H := bd_ H; obtain ⟨Iy, CE, H⟩ := H
              replace H := it_ H; obtain ⟨rfl, H⟩ | ⟨rfl, H⟩ := H
              ·replace H := bd_ H; obtain ⟨Iz, yZ, H⟩ := H
               replace H := it_ H; obtain ⟨rfl, H⟩ | ⟨rfl, H⟩ := H
               ·have H' := aa_.mk H
                clear H
                obtain ⟨eW, eh, mL⟩ := Kd.pW_ ac.out
                subst mL
                as_aux_lemma =>
                 go_wp2_with (first | (go_at_call 9; (with_reducible refine (aT_.calls bp _ _ bJ cb true _ ?_ ?_ b5.out).mono ?_); exact (Z3 ac); exact (Kd.pV_ ac.out).2.1; rintro e uP ⟨dU, rfl, ho0, hb⟩; refine k5_ (Yb_ aa) (Ya_ ac) (Ya_ af) (Wa_ aa) Ws_ ?_; clear aa ac af HB; intro aa ac af ab HB; (try clear hb ho0)) | (go_at_call 10; (with_reducible refine (an_.calls bp _ _ bJ bD true _ ?_ ?_ gL.out).mono ?_); exact (Z3 ac); exact (Kd.pV_ ac.out).2.1; rintro e yx ⟨dV, rfl, ho0, hb⟩; refine k6_ (Ya_ aa) (Yb_ ac) (Yb_ af) (Ya_ ab) (Wb_ ac af) Ws_ ?_; clear aa ac af ab HB; intro aa ac af ab ae HB; (try clear hb ho0); obtain ⟨Ck, Cl, vl⟩ := Kd.pW_ af.out; subst vl) | (go_at_call 11; (with_reducible refine (ai_.calls bp _ _ cw cf true _ ?_ ?_ i7.out).mono ?_); exact (Z3 af); exact (Kd.pV_ af.out).2.1; rintro e BN ⟨dW, rfl, ho0, hb⟩; refine k7_ (Ya_ aa) (Yb_ ac) (Yb_ af) (Ya_ ab) (Yb_ ae) (Wc_ ac af ae) Ws_ ?_; clear aa ac af ab ae HB; intro aa ac af ab ae az HB; (try clear hb ho0); obtain ⟨rg, rh, nO⟩ := Kd.pW_ ae.out; subst nO) | (go_at_call 9; (with_reducible refine (aT_.calls bp _ _ bD cX true _ ?_ ?_ jz.out).mono ?_); exact (Z3 ae); exact (Kd.pV_ ae.out).2.1; rintro e yj ⟨dX, rfl, ho0, hb⟩; refine k8_ (Yb_ aa) (Ya_ ac) (Ya_ af) (Yb_ ab) (Ya_ ae) (Ya_ az) (Wb_ aa ab) Ws_ ?_; clear aa ac af ab ae az HB; intro aa ac af ab ae az bc HB; (try clear hb ho0); obtain ⟨CF, Ak, oM⟩ := Kd.pW_ ab.out; subst oM) | (go_at_call 12; (with_reducible refine (aJ_.calls bp _ _ cb _ _ b6 true _ ?_ ?_ ?_ ?_ la.out).mono ?_); exact (Z3 ab); exact (Kd.pV_ ab.out).2.1; exact (Z3 aa); exact (Kd.pV_ aa.out).2.1; rintro e w' ⟨rfl, ⟨nd, rfl⟩⟩; (try first | exact ⟨rfl, _, dA_⟩ | exact ⟨rfl, _, dB_⟩); obtain ⟨GI, Cb, oH⟩ := Kd.pW_ az.out; subst oH) | (go_at_call 8; (with_reducible refine (aI_.calls bp _ _ bD _ _ cf true _ ?_ ?_ ?_ ?_ lO.out).mono ?_); exact (Z3 ae); exact (Kd.pV_ ae.out).2.1; exact (Z3 az); exact (Kd.pV_ az.out).2.1; rintro e w' ⟨rfl, ⟨nd, rfl⟩⟩; (try first | exact ⟨rfl, _, dA_⟩ | exact ⟨rfl, _, dB_⟩); obtain ⟨IE, IF, vD⟩ := Kd.pW_ bc.out; subst vD) | (go_at_call 12; (with_reducible refine (aJ_.calls bp _ _ cX _ _ b6 true _ ?_ ?_ ?_ ?_ CE.out).mono ?_); exact (Z3 bc); exact (Kd.pV_ bc.out).2.1; exact (Z3 aa); exact (Kd.pV_ aa.out).2.1; rintro e w' ⟨rfl, ⟨nd, rfl⟩⟩; (try first | exact ⟨rfl, _, dA_⟩ | exact ⟨rfl, _, dB_⟩)) | (go_at_call 13; (with_reducible refine (ap_.calls bp _ _ bJ true _ ?_ ?_ yZ.out).mono ?_); exact (Z3 ac); exact (Kd.pV_ ac.out).2.1; rintro e JP ⟨rfl, hb⟩; refine k8_ (Ya_ aa) (Ya_ ac) (Ya_ af) (Ya_ ab) (Ya_ ae) (Ya_ az) (Ya_ bc) Ws_ ?_; clear aa ac af ab ae az bc HB; intro aa ac af ab ae az bc HB; (try clear hb)))
                 repeat (go_quiet (fail); try go_wp2_with (fail))
                 (refine Met.intro ?_; go_step; (repeat (first | apply dq_ | apply d8_ | apply Exists.intro)); refine ⟨?rel, rfl⟩)
                 case rel => exact ⟨_, H', ⟨eL_ Gl⟩, ⟨Z2⟩⟩
               obtain rfl := Option.some.inj H
               obtain ⟨Ao48, co48, IG⟩ := Kd.pW_ ac.out
               subst IG
               as_aux_lemma =>
                go_wp2_with (first | (go_at_call 9; (with_reducible refine (aT_.calls bp _ _ bJ cb true _ ?_ ?_ b5.out).mono ?_); exact (Z3 ac); exact (Kd.pV_ ac.out).2.1; rintro e DQ ⟨dU, rfl, ho0, hb⟩; refine k5_ (Yb_ aa) (Ya_ ac) (Ya_ af) (Wa_ aa) Ws_ ?_; clear aa ac af HB; intro aa ac af ab HB; (try clear hb ho0)) | (go_at_call 10; (with_reducible refine (an_.calls bp _ _ bJ bD true _ ?_ ?_ gL.out).mono ?_); exact (Z3 ac); exact (Kd.pV_ ac.out).2.1; rintro e u1 ⟨dV, rfl, ho0, hb⟩; refine k6_ (Ya_ aa) (Yb_ ac) (Yb_ af) (Ya_ ab) (Wb_ ac af) Ws_ ?_; clear aa ac af ab HB; intro aa ac af ab ae HB; (try clear hb ho0); obtain ⟨KV, KW, Az⟩ := Kd.pW_ af.out; subst Az) | (go_at_call 11; (with_reducible refine (ai_.calls bp _ _ cw cf true _ ?_ ?_ i7.out).mono ?_); exact (Z3 af); exact (Kd.pV_ af.out).2.1; rintro e xo ⟨dW, rfl, ho0, hb⟩; refine k7_ (Ya_ aa) (Yb_ ac) (Yb_ af) (Ya_ ab) (Yb_ ae) (Wc_ ac af ae) Ws_ ?_; clear aa ac af ab ae HB; intro aa ac af ab ae az HB; (try clear hb ho0); obtain ⟨KX, KY, AA⟩ := Kd.pW_ ae.out; subst AA) | (go_at_call 9; (with_reducible refine (aT_.calls bp _ _ bD cX true _ ?_ ?_ jz.out).mono ?_); exact (Z3 ae); exact (Kd.pV_ ae.out).2.1; rintro e xp ⟨dX, rfl, ho0, hb⟩; refine k8_ (Yb_ aa) (Ya_ ac) (Ya_ af) (Yb_ ab) (Ya_ ae) (Ya_ az) (Wb_ aa ab) Ws_ ?_; clear aa ac af ab ae az HB; intro aa ac af ab ae az bc HB; (try clear hb ho0); obtain ⟨l4, l5, sM⟩ := Kd.pW_ ab.out; subst sM) | (go_at_call 12; (with_reducible refine (aJ_.calls bp _ _ cb _ _ b6 true _ ?_ ?_ ?_ ?_ la.out).mono ?_); exact (Z3 ab); exact (Kd.pV_ ab.out).2.1; exact (Z3 aa); exact (Kd.pV_ aa.out).2.1; rintro e w' ⟨rfl, ⟨nd, rfl⟩⟩; (try first | exact ⟨rfl, _, dA_⟩ | exact ⟨rfl, _, dB_⟩); obtain ⟨CG, CH, vE⟩ := Kd.pW_ az.out; subst vE) | (go_at_call 8; (with_reducible refine (aI_.calls bp _ _ bD _ _ cf true _ ?_ ?_ ?_ ?_ lO.out).mono ?_); exact (Z3 ae); exact (Kd.pV_ ae.out).2.1; exact (Z3 az); exact (Kd.pV_ az.out).2.1; rintro e w' ⟨rfl, ⟨nd, rfl⟩⟩; (try first | exact ⟨rfl, _, dA_⟩ | exact ⟨rfl, _, dB_⟩); obtain ⟨jl, jm, rO⟩ := Kd.pW_ bc.out; subst rO) | (go_at_call 12; (with_reducible refine (aJ_.calls bp _ _ cX _ _ b6 true _ ?_ ?_ ?_ ?_ CE.out).mono ?_); exact (Z3 bc); exact (Kd.pV_ bc.out).2.1; exact (Z3 aa); exact (Kd.pV_ aa.out).2.1; rintro e w' ⟨rfl, ⟨nd, rfl⟩⟩; (try first | exact ⟨rfl, _, dA_⟩ | exact ⟨rfl, _, dB_⟩)) | (go_at_call 13; (with_reducible refine (ap_.calls bp _ _ bJ false _ ?_ ?_ yZ.out).mono ?_); exact (Z3 ac); exact (Kd.pV_ ac.out).2.1; rintro e JQ ⟨rfl, hb⟩; refine k8_ (Ya_ aa) (Ya_ ac) (Ya_ af) (Ya_ ab) (Ya_ ae) (Ya_ az) (Ya_ bc) Ws_ ?_; clear aa ac af ab ae az bc HB; intro aa ac af ab ae az bc HB; (try clear hb)))
                repeat (go_quiet (fail); try go_wp2_with (fail))
                go_ret
                exact ⟨Z9, Z2⟩
              obtain rfl := Option.some.inj H
              obtain ⟨KZ, K0, IH⟩ := Kd.pW_ ac.out
              subst IH
              as_aux_lemma =>
               go_wp2_with (first | (go_at_call 9; (with_reducible refine (aT_.calls bp _ _ bJ cb true _ ?_ ?_ b5.out).mono ?_); exact (Z3 ac); exact (Kd.pV_ ac.out).2.1; rintro e Hj ⟨dU, rfl, ho0, hb⟩; refine k5_ (Yb_ aa) (Ya_ ac) (Ya_ af) (Wa_ aa) Ws_ ?_; clear aa ac af HB; intro aa ac af ab HB; (try clear hb ho0)) | (go_at_call 10; (with_reducible refine (an_.calls bp _ _ bJ bD true _ ?_ ?_ gL.out).mono ?_); exact (Z3 ac); exact (Kd.pV_ ac.out).2.1; rintro e Nq ⟨dV, rfl, ho0, hb⟩; refine k6_ (Ya_ aa) (Yb_ ac) (Yb_ af) (Ya_ ab) (Wb_ ac af) Ws_ ?_; clear aa ac af ab HB; intro aa ac af ab ae HB; (try clear hb ho0); obtain ⟨K1, K2, AB⟩ := Kd.pW_ af.out; subst AB) | (go_at_call 11; (with_reducible refine (ai_.calls bp _ _ cw cf true _ ?_ ?_ i7.out).mono ?_); exact (Z3 af); exact (Kd.pV_ af.out).2.1; rintro e N7 ⟨dW, rfl, ho0, hb⟩; refine k7_ (Ya_ aa) (Yb_ ac) (Yb_ af) (Ya_ ab) (Yb_ ae) (Wc_ ac af ae) Ws_ ?_; clear aa ac af ab ae HB; intro aa ac af ab ae az HB; (try clear hb ho0); obtain ⟨Cq, Cr, vm⟩ := Kd.pW_ ae.out; subst vm) | (go_at_call 9; (with_reducible refine (aT_.calls bp _ _ bD cX true _ ?_ ?_ jz.out).mono ?_); exact (Z3 ae); exact (Kd.pV_ ae.out).2.1; rintro e Nr ⟨dX, rfl, ho0, hb⟩; refine k8_ (Yb_ aa) (Ya_ ac) (Ya_ af) (Yb_ ab) (Ya_ ae) (Ya_ az) (Wb_ aa ab) Ws_ ?_; clear aa ac af ab ae az HB; intro aa ac af ab ae az bc HB; (try clear hb ho0); obtain ⟨Hk, Hl, vn⟩ := Kd.pW_ ab.out; subst vn) | (go_at_call 12; (with_reducible refine (aJ_.calls bp _ _ cb _ _ b6 true _ ?_ ?_ ?_ ?_ la.out).mono ?_); exact (Z3 ab); exact (Kd.pV_ ab.out).2.1; exact (Z3 aa); exact (Kd.pV_ aa.out).2.1; rintro e w' ⟨rfl, ⟨nd, rfl⟩⟩; (try first | exact ⟨rfl, _, dA_⟩ | exact ⟨rfl, _, dB_⟩); obtain ⟨Hm, Hn, vo⟩ := Kd.pW_ az.out; subst vo) | (go_at_call 8; (with_reducible refine (aI_.calls bp _ _ bD _ _ cf true _ ?_ ?_ ?_ ?_ lO.out).mono ?_); exact (Z3 ae); exact (Kd.pV_ ae.out).2.1; exact (Z3 az); exact (Kd.pV_ az.out).2.1; rintro e w' ⟨rfl, ⟨nd, rfl⟩⟩; (try first | exact ⟨rfl, _, dA_⟩ | exact ⟨rfl, _, dB_⟩); obtain ⟨K3, K4, AC⟩ := Kd.pW_ bc.out; subst AC) | (go_at_call 12; (with_reducible refine (aJ_.calls bp _ _ cX _ _ b6 false _ ?_ ?_ ?_ ?_ CE.out).mono ?_); exact (Z3 bc); exact (Kd.pV_ bc.out).2.1; exact (Z3 aa); exact (Kd.pV_ aa.out).2.1; rintro e w' ⟨rfl, ⟨nd, rfl⟩⟩; (try first | exact ⟨rfl, _, dA_⟩ | exact ⟨rfl, _, dB_⟩)))
               repeat (go_quiet (fail); try go_wp2_with (fail))
               go_ret
               exact ⟨Z9, Z2⟩
             obtain rfl := Option.some.inj H
             obtain ⟨Ao69, co69, eo69⟩ := Kd.pW_ ac.out
             subst eo69
             as_aux_lemma =>
              go_wp2_with (first | (go_at_call 9; (with_reducible refine (aT_.calls bp _ _ bJ cb true _ ?_ ?_ b5.out).mono ?_); exact (Z3 ac); exact (Kd.pV_ ac.out).2.1; rintro e NH ⟨dU, rfl, ho0, hb⟩; refine k5_ (Yb_ aa) (Ya_ ac) (Ya_ af) (Wa_ aa) Ws_ ?_; clear aa ac af HB; intro aa ac af ab HB; (try clear hb ho0)) | (go_at_call 10; (with_reducible refine (an_.calls bp _ _ bJ bD true _ ?_ ?_ gL.out).mono ?_); exact (Z3 ac); exact (Kd.pV_ ac.out).2.1; rintro e N8 ⟨dV, rfl, ho0, hb⟩; refine k6_ (Ya_ aa) (Yb_ ac) (Yb_ af) (Ya_ ab) (Wb_ ac af) Ws_ ?_; clear aa ac af ab HB; intro aa ac af ab ae HB; (try clear hb ho0); obtain ⟨K5, K6, AD⟩ := Kd.pW_ af.out; subst AD) | (go_at_call 11; (with_reducible refine (ai_.calls bp _ _ cw cf true _ ?_ ?_ i7.out).mono ?_); exact (Z3 af); exact (Kd.pV_ af.out).2.1; rintro e N9 ⟨dW, rfl, ho0, hb⟩; refine k7_ (Ya_ aa) (Yb_ ac) (Yb_ af) (Ya_ ab) (Yb_ ae) (Wc_ ac af ae) Ws_ ?_; clear aa ac af ab ae HB; intro aa ac af ab ae az HB; (try clear hb ho0); obtain ⟨K7, K8, AE⟩ := Kd.pW_ ae.out; subst AE) | (go_at_call 9; (with_reducible refine (aT_.calls bp _ _ bD cX false _ ?_ ?_ jz.out).mono ?_); exact (Z3 ae); exact (Kd.pV_ ae.out).2.1; rintro e NI ⟨dX, rfl, ho0, hb⟩; refine k8_ (Yb_ aa) (Ya_ ac) (Ya_ af) (Yb_ ab) (Ya_ ae) (Ya_ az) (Wb_ aa ab) Ws_ ?_; clear aa ac af ab ae az HB; intro aa ac af ab ae az bc HB; (try clear hb ho0); obtain ⟨K9, La, AF⟩ := Kd.pW_ ab.out; subst AF) | (go_at_call 12; (with_reducible refine (aJ_.calls bp _ _ cb _ _ b6 true _ ?_ ?_ ?_ ?_ la.out).mono ?_); exact (Z3 ab); exact (Kd.pV_ ab.out).2.1; exact (Z3 aa); exact (Kd.pV_ aa.out).2.1; rintro e w' ⟨rfl, ⟨nd, rfl⟩⟩; (try first | exact ⟨rfl, _, dA_⟩ | exact ⟨rfl, _, dB_⟩); obtain ⟨Lb, Lc, AG⟩ := Kd.pW_ az.out; subst AG) | (go_at_call 8; (with_reducible refine (aI_.calls bp _ _ bD _ _ cf true _ ?_ ?_ ?_ ?_ lO.out).mono ?_); exact (Z3 ae); exact (Kd.pV_ ae.out).2.1; exact (Z3 az); exact (Kd.pV_ az.out).2.1; rintro e w' ⟨rfl, ⟨nd, rfl⟩⟩; (try first | exact ⟨rfl, _, dA_⟩ | exact ⟨rfl, _, dB_⟩)))
              repeat (go_quiet (fail); try go_wp2_with (fail))
              go_ret
              exact ⟨Z9, Z2⟩
            have mh : ((cf.length : Int) == (cw.length : Int)) = false := beq_eq_false_iff_ne.mpr c31
            have Eo : ((cf.length : Int) != (cw.length : Int)) = true := bne_iff_ne.mpr c31
            have Ep : (cf.length == cw.length) = false := by first | simpa using c31 | (simp at c31 ⊢; omega)
            (first | rw [mh] | (simp only [bA_, ch_]; rw [mh]) | skip)
            obtain rfl := Option.some.inj H
            obtain ⟨G4, G5, G6⟩ := Kd.pW_ ac.out
            subst G6
            as_aux_lemma =>
             go_wp2_with (first | (go_at_call 9; (with_reducible refine (aT_.calls bp _ _ bJ cb true _ ?_ ?_ b5.out).mono ?_); exact (Z3 ac); exact (Kd.pV_ ac.out).2.1; rintro e Oa ⟨dU, rfl, ho0, hb⟩; refine k5_ (Yb_ aa) (Ya_ ac) (Ya_ af) (Wa_ aa) Ws_ ?_; clear aa ac af HB; intro aa ac af ab HB; (try clear hb ho0)) | (go_at_call 10; (with_reducible refine (an_.calls bp _ _ bJ bD true _ ?_ ?_ gL.out).mono ?_); exact (Z3 ac); exact (Kd.pV_ ac.out).2.1; rintro e NJ ⟨dV, rfl, ho0, hb⟩; refine k6_ (Ya_ aa) (Yb_ ac) (Yb_ af) (Ya_ ab) (Wb_ ac af) Ws_ ?_; clear aa ac af ab HB; intro aa ac af ab ae HB; (try clear hb ho0); obtain ⟨Ld, Le, AH⟩ := Kd.pW_ af.out; subst AH) | (go_at_call 11; (with_reducible refine (ai_.calls bp _ _ cw cf true _ ?_ ?_ i7.out).mono ?_); exact (Z3 af); exact (Kd.pV_ af.out).2.1; rintro e Ob ⟨dW, rfl, ho0, hb⟩; refine k7_ (Ya_ aa) (Yb_ ac) (Yb_ af) (Ya_ ab) (Yb_ ae) (Wc_ ac af ae) Ws_ ?_; clear aa ac af ab ae HB; intro aa ac af ab ae az HB; (try clear hb ho0); obtain ⟨Lf, Lg, AJ⟩ := Kd.pW_ ae.out; subst AJ) | (go_at_call 9; (with_reducible refine (aT_.calls bp _ _ bD cX gz _ ?_ ?_ jz.out).mono ?_); exact (Z3 ae); exact (Kd.pV_ ae.out).2.1; rintro e Oc ⟨dX, rfl, ho0, hb⟩; refine k8_ (Yb_ aa) (Ya_ ac) (Ya_ af) (Yb_ ab) (Ya_ ae) (Ya_ az) (Wb_ aa ab) Ws_ ?_; clear aa ac af ab ae az HB; intro aa ac af ab ae az bc HB; (try clear hb ho0); obtain ⟨Lh, Li, AK⟩ := Kd.pW_ ab.out; subst AK) | (go_at_call 12; (with_reducible refine (aJ_.calls bp _ _ cb _ _ b6 true _ ?_ ?_ ?_ ?_ la.out).mono ?_); exact (Z3 ab); exact (Kd.pV_ ab.out).2.1; exact (Z3 aa); exact (Kd.pV_ aa.out).2.1; rintro e w' ⟨rfl, ⟨nd, rfl⟩⟩; (try first | exact ⟨rfl, _, dA_⟩ | exact ⟨rfl, _, dB_⟩); obtain ⟨Lj, Lk, AL⟩ := Kd.pW_ az.out; subst AL) | (go_at_call 8; (with_reducible refine (aI_.calls bp _ _ bD _ _ cf true _ ?_ ?_ ?_ ?_ lO.out).mono ?_); exact (Z3 ae); exact (Kd.pV_ ae.out).2.1; exact (Z3 az); exact (Kd.pV_ az.out).2.1; rintro e w' ⟨rfl, ⟨nd, rfl⟩⟩; (try first | exact ⟨rfl, _, dA_⟩ | exact ⟨rfl, _, dB_⟩)))
             repeat (go_quiet (fail); try go_wp2_with (fail))
             go_ret
             exact ⟨Z9, Z2⟩
           obtain rfl := Option.some.inj H
           obtain ⟨Ao87, co87, eo87⟩ := Kd.pW_ ac.out
           subst eo87
           as_aux_lemma =>
            go_wp2_with (first | (go_at_call 9; (with_reducible refine (aT_.calls bp _ _ bJ cb true _ ?_ ?_ b5.out).mono ?_); exact (Z3 ac); exact (Kd.pV_ ac.out).2.1; rintro e Od ⟨dU, rfl, ho0, hb⟩; refine k5_ (Yb_ aa) (Ya_ ac) (Ya_ af) (Wa_ aa) Ws_ ?_; clear aa ac af HB; intro aa ac af ab HB; (try clear hb ho0)) | (go_at_call 10; (with_reducible refine (an_.calls bp _ _ bJ bD true _ ?_ ?_ gL.out).mono ?_); exact (Z3 ac); exact (Kd.pV_ ac.out).2.1; rintro e Oe ⟨dV, rfl, ho0, hb⟩; refine k6_ (Ya_ aa) (Yb_ ac) (Yb_ af) (Ya_ ab) (Wb_ ac af) Ws_ ?_; clear aa ac af ab HB; intro aa ac af ab ae HB; (try clear hb ho0); obtain ⟨Ll, Lm, AM⟩ := Kd.pW_ af.out; subst AM) | (go_at_call 11; (with_reducible refine (ai_.calls bp _ _ cw cf true _ ?_ ?_ i7.out).mono ?_); exact (Z3 af); exact (Kd.pV_ af.out).2.1; rintro e Of ⟨dW, rfl, ho0, hb⟩; refine k7_ (Ya_ aa) (Yb_ ac) (Yb_ af) (Ya_ ab) (Yb_ ae) (Wc_ ac af ae) Ws_ ?_; clear aa ac af ab ae HB; intro aa ac af ab ae az HB; (try clear hb ho0); obtain ⟨Ln, Lo, AN⟩ := Kd.pW_ ae.out; subst AN) | (go_at_call 9; (with_reducible refine (aT_.calls bp _ _ bD cX gz _ ?_ ?_ jz.out).mono ?_); exact (Z3 ae); exact (Kd.pV_ ae.out).2.1; rintro e Og ⟨dX, rfl, ho0, hb⟩; refine k8_ (Yb_ aa) (Ya_ ac) (Ya_ af) (Yb_ ab) (Ya_ ae) (Ya_ az) (Wb_ aa ab) Ws_ ?_; clear aa ac af ab ae az HB; intro aa ac af ab ae az bc HB; (try clear hb ho0); obtain ⟨Lp, Lq, AO⟩ := Kd.pW_ ab.out; subst AO) | (go_at_call 12; (with_reducible refine (aJ_.calls bp _ _ cb _ _ b6 true _ ?_ ?_ ?_ ?_ la.out).mono ?_); exact (Z3 ab); exact (Kd.pV_ ab.out).2.1; exact (Z3 aa); exact (Kd.pV_ aa.out).2.1; rintro e w' ⟨rfl, ⟨nd, rfl⟩⟩; (try first | exact ⟨rfl, _, dA_⟩ | exact ⟨rfl, _, dB_⟩); obtain ⟨Lr, Ls, AP⟩ := Kd.pW_ az.out; subst AP) | (go_at_call 8; (with_reducible refine (aI_.calls bp _ _ bD _ _ cf false _ ?_ ?_ ?_ ?_ lO.out).mono ?_); exact (Z3 ae); exact (Kd.pV_ ae.out).2.1; exact (Z3 az); exact (Kd.pV_ az.out).2.1; rintro e w' ⟨rfl, ⟨nd, rfl⟩⟩; (try first | exact ⟨rfl, _, dA_⟩ | exact ⟨rfl, _, dB_⟩)))
            repeat (go_quiet (fail); try go_wp2_with (fail))
            go_ret
            exact ⟨Z9, Z2⟩
          obtain rfl := Option.some.inj H
          obtain ⟨Ao96, co96, eo96⟩ := Kd.pW_ ac.out
          subst eo96
          as_aux_lemma =>
           go_wp2_with (first | (go_at_call 9; (with_reducible refine (aT_.calls bp _ _ bJ cb true _ ?_ ?_ b5.out).mono ?_); exact (Z3 ac); exact (Kd.pV_ ac.out).2.1; rintro e Oh ⟨dU, rfl, ho0, hb⟩; refine k5_ (Yb_ aa) (Ya_ ac) (Ya_ af) (Wa_ aa) Ws_ ?_; clear aa ac af HB; intro aa ac af ab HB; (try clear hb ho0)) | (go_at_call 10; (with_reducible refine (an_.calls bp _ _ bJ bD true _ ?_ ?_ gL.out).mono ?_); exact (Z3 ac); exact (Kd.pV_ ac.out).2.1; rintro e Oi ⟨dV, rfl, ho0, hb⟩; refine k6_ (Ya_ aa) (Yb_ ac) (Yb_ af) (Ya_ ab) (Wb_ ac af) Ws_ ?_; clear aa ac af ab HB; intro aa ac af ab ae HB; (try clear hb ho0); obtain ⟨Lt, Lu, AQ⟩ := Kd.pW_ af.out; subst AQ) | (go_at_call 11; (with_reducible refine (ai_.calls bp _ _ cw cf false _ ?_ ?_ i7.out).mono ?_); exact (Z3 af); exact (Kd.pV_ af.out).2.1; rintro e Lv ⟨dW, rfl, ho0, hb⟩; refine k7_ (Ya_ aa) (Yb_ ac) (Yb_ af) (Ya_ ab) (Yb_ ae) (Wc_ ac af ae) Ws_ ?_; clear aa ac af ab ae HB; intro aa ac af ab ae az HB; (try clear hb ho0); obtain ⟨Er, Es, sN⟩ := Kd.pW_ ae.out; subst sN) | (go_at_call 9; (with_reducible refine (aT_.calls bp _ _ bD cX gz _ ?_ ?_ jz.out).mono ?_); exact (Z3 ae); exact (Kd.pV_ ae.out).2.1; rintro e Lw ⟨dX, rfl, ho0, hb⟩; refine k8_ (Yb_ aa) (Ya_ ac) (Ya_ af) (Yb_ ab) (Ya_ ae) (Ya_ az) (Wb_ aa ab) Ws_ ?_; clear aa ac af ab ae az HB; intro aa ac af ab ae az bc HB; (try clear hb ho0); obtain ⟨Et, Eu, sO⟩ := Kd.pW_ ab.out; subst sO) | (go_at_call 12; (with_reducible refine (aJ_.calls bp _ _ cb _ _ b6 true _ ?_ ?_ ?_ ?_ la.out).mono ?_); exact (Z3 ab); exact (Kd.pV_ ab.out).2.1; exact (Z3 aa); exact (Kd.pV_ aa.out).2.1; rintro e w' ⟨rfl, ⟨nd, rfl⟩⟩; (try first | exact ⟨rfl, _, dA_⟩ | exact ⟨rfl, _, dB_⟩)))
           repeat (go_quiet (fail); try go_wp2_with (fail))
           go_ret
           exact ⟨Z9, Z2⟩
         obtain rfl := Option.some.inj H
         obtain ⟨Ao104, co104, eo104⟩ := Kd.pW_ ac.out
         subst eo104
         as_aux_lemma =>
          go_wp2_with (first | (go_at_call 9; (with_reducible refine (aT_.calls bp _ _ bJ cb true _ ?_ ?_ b5.out).mono ?_); exact (Z3 ac); exact (Kd.pV_ ac.out).2.1; rintro e Lx ⟨dU, rfl, ho0, hb⟩; refine k5_ (Yb_ aa) (Ya_ ac) (Ya_ af) (Wa_ aa) Ws_ ?_; clear aa ac af HB; intro aa ac af ab HB; (try clear hb ho0)) | (go_at_call 10; (with_reducible refine (an_.calls bp _ _ bJ bD false _ ?_ ?_ gL.out).mono ?_); exact (Z3 ac); exact (Kd.pV_ ac.out).2.1; rintro e Ly ⟨dV, rfl, ho0, hb⟩; refine k6_ (Ya_ aa) (Yb_ ac) (Yb_ af) (Ya_ ab) (Wb_ ac af) Ws_ ?_; clear aa ac af ab HB; intro aa ac af ab ae HB; (try clear hb ho0); obtain ⟨Ew, Ex, sP⟩ := Kd.pW_ af.out; subst sP) | (go_at_call 11; (with_reducible refine (ai_.calls bp _ _ cw cf oN _ ?_ ?_ i7.out).mono ?_); exact (Z3 af); exact (Kd.pV_ af.out).2.1; rintro e Lz ⟨dW, rfl, ho0, hb⟩; refine k7_ (Ya_ aa) (Yb_ ac) (Yb_ af) (Ya_ ab) (Yb_ ae) (Wc_ ac af ae) Ws_ ?_; clear aa ac af ab ae HB; intro aa ac af ab ae az HB; (try clear hb ho0); obtain ⟨Ey, Ez, sQ⟩ := Kd.pW_ ae.out; subst sQ) | (go_at_call 9; (with_reducible refine (aT_.calls bp _ _ bD cX gz _ ?_ ?_ jz.out).mono ?_); exact (Z3 ae); exact (Kd.pV_ ae.out).2.1; rintro e LA ⟨dX, rfl, ho0, hb⟩; refine k8_ (Yb_ aa) (Ya_ ac) (Ya_ af) (Yb_ ab) (Ya_ ae) (Ya_ az) (Wb_ aa ab) Ws_ ?_; clear aa ac af ab ae az HB; intro aa ac af ab ae az bc HB; (try clear hb ho0); obtain ⟨EA, EB, sR⟩ := Kd.pW_ ab.out; subst sR) | (go_at_call 12; (with_reducible refine (aJ_.calls bp _ _ cb _ _ b6 true _ ?_ ?_ ?_ ?_ la.out).mono ?_); exact (Z3 ab); exact (Kd.pV_ ab.out).2.1; exact (Z3 aa); exact (Kd.pV_ aa.out).2.1; rintro e w' ⟨rfl, ⟨nd, rfl⟩⟩; (try first | exact ⟨rfl, _, dA_⟩ | exact ⟨rfl, _, dB_⟩)))
          repeat (go_quiet (fail); try go_wp2_with (fail))
          go_ret
          exact ⟨Z9, Z2⟩
        obtain rfl := Option.some.inj H
        obtain ⟨Ao112, co112, eo112⟩ := Kd.pW_ ac.out
        subst eo112
        as_aux_lemma =>
         go_wp2_with (first | (go_at_call 9; (with_reducible refine (aT_.calls bp _ _ bJ cb true _ ?_ ?_ b5.out).mono ?_); exact (Z3 ac); exact (Kd.pV_ ac.out).2.1; rintro e LB ⟨dU, rfl, ho0, hb⟩; refine k5_ (Yb_ aa) (Ya_ ac) (Ya_ af) (Wa_ aa) Ws_ ?_; clear aa ac af HB; intro aa ac af ab HB; (try clear hb ho0)) | (go_at_call 10; (with_reducible refine (an_.calls bp _ _ bJ bD vC _ ?_ ?_ gL.out).mono ?_); exact (Z3 ac); exact (Kd.pV_ ac.out).2.1; rintro e LC ⟨dV, rfl, ho0, hb⟩; refine k6_ (Ya_ aa) (Yb_ ac) (Yb_ af) (Ya_ ab) (Wb_ ac af) Ws_ ?_; clear aa ac af ab HB; intro aa ac af ab ae HB; (try clear hb ho0); obtain ⟨EC, ED, sS⟩ := Kd.pW_ af.out; subst sS) | (go_at_call 11; (with_reducible refine (ai_.calls bp _ _ cw cf oN _ ?_ ?_ i7.out).mono ?_); exact (Z3 af); exact (Kd.pV_ af.out).2.1; rintro e LD ⟨dW, rfl, ho0, hb⟩; refine k7_ (Ya_ aa) (Yb_ ac) (Yb_ af) (Ya_ ab) (Yb_ ae) (Wc_ ac af ae) Ws_ ?_; clear aa ac af ab ae HB; intro aa ac af ab ae az HB; (try clear hb ho0); obtain ⟨EE, EF, sT⟩ := Kd.pW_ ae.out; subst sT) | (go_at_call 9; (with_reducible refine (aT_.calls bp _ _ bD cX gz _ ?_ ?_ jz.out).mono ?_); exact (Z3 ae); exact (Kd.pV_ ae.out).2.1; rintro e LE ⟨dX, rfl, ho0, hb⟩; refine k8_ (Yb_ aa) (Ya_ ac) (Ya_ af) (Yb_ ab) (Ya_ ae) (Ya_ az) (Wb_ aa ab) Ws_ ?_; clear aa ac af ab ae az HB; intro aa ac af ab ae az bc HB; (try clear hb ho0); obtain ⟨EG, EH, sU⟩ := Kd.pW_ ab.out; subst sU) | (go_at_call 12; (with_reducible refine (aJ_.calls bp _ _ cb _ _ b6 false _ ?_ ?_ ?_ ?_ la.out).mono ?_); exact (Z3 ab); exact (Kd.pV_ ab.out).2.1; exact (Z3 aa); exact (Kd.pV_ aa.out).2.1; rintro e w' ⟨rfl, ⟨nd, rfl⟩⟩; (try first | exact ⟨rfl, _, dA_⟩ | exact ⟨rfl, _, dB_⟩)))
         repeat (go_quiet (fail); try go_wp2_with (fail))
         go_ret
         exact ⟨Z9, Z2⟩
       obtain rfl := Option.some.inj H
       obtain ⟨Ao120, co120, eo120⟩ := Kd.pW_ ac.out
       subst eo120
       as_aux_lemma =>
        go_wp2_with (first | (go_at_call 9; (with_reducible refine (aT_.calls bp _ _ bJ cb false _ ?_ ?_ b5.out).mono ?_); exact (Z3 ac); exact (Kd.pV_ ac.out).2.1; rintro e LF ⟨dU, rfl, ho0, hb⟩; refine k5_ (Yb_ aa) (Ya_ ac) (Ya_ af) (Wa_ aa) Ws_ ?_; clear aa ac af HB; intro aa ac af ab HB; (try clear hb ho0)) | (go_at_call 10; (with_reducible refine (an_.calls bp _ _ bJ bD vC _ ?_ ?_ gL.out).mono ?_); exact (Z3 ac); exact (Kd.pV_ ac.out).2.1; rintro e LG ⟨dV, rfl, ho0, hb⟩; refine k6_ (Ya_ aa) (Yb_ ac) (Yb_ af) (Ya_ ab) (Wb_ ac af) Ws_ ?_; clear aa ac af ab HB; intro aa ac af ab ae HB; (try clear hb ho0); obtain ⟨EI, EJ, sV⟩ := Kd.pW_ af.out; subst sV) | (go_at_call 11; (with_reducible refine (ai_.calls bp _ _ cw cf oN _ ?_ ?_ i7.out).mono ?_); exact (Z3 af); exact (Kd.pV_ af.out).2.1; rintro e LH ⟨dW, rfl, ho0, hb⟩; refine k7_ (Ya_ aa) (Yb_ ac) (Yb_ af) (Ya_ ab) (Yb_ ae) (Wc_ ac af ae) Ws_ ?_; clear aa ac af ab ae HB; intro aa ac af ab ae az HB; (try clear hb ho0); obtain ⟨EK, EL, sW⟩ := Kd.pW_ ae.out; subst sW) | (go_at_call 9; (with_reducible refine (aT_.calls bp _ _ bD cX gz _ ?_ ?_ jz.out).mono ?_); exact (Z3 ae); exact (Kd.pV_ ae.out).2.1; rintro e LI ⟨dX, rfl, ho0, hb⟩; refine k8_ (Yb_ aa) (Ya_ ac) (Ya_ af) (Yb_ ab) (Ya_ ae) (Ya_ az) (Wb_ aa ab) Ws_ ?_; clear aa ac af ab ae az HB; intro aa ac af ab ae az bc HB; (try clear hb ho0)))
        repeat (go_quiet (fail); try go_wp2_with (fail))
        go_ret
        exact ⟨Z9, Z2⟩
      have H' := aa_.mk H
      clear H
      as_aux_lemma =>
       go_wp2
       repeat (go_quiet (fail); try go_wp2)
       (refine Met.intro ?_; go_step; (repeat (first | apply dq_ | apply d8_ | apply Exists.intro)); refine ⟨?rel, rfl⟩)
       case rel => exact ⟨_, H', ⟨eL_ Gl⟩, ⟨Z2⟩⟩
    case rest =>
     as_aux_lemma =>
      clear HC18
      obtain ⟨kq, HA, ym, HB⟩ := hcut
      cases kq with
      | zero => exact absurd HA.out (by simp [laws_FnStrokes.j1])
      | succ iX =>
       have H := HA.out
       clear HA
       simp only [laws_FnStrokes.j1] at H
       replace H := bd_ H; obtain ⟨⟨bo, iY⟩, II, H⟩ := H
       (try dsimp only at H)
       replace H := bd_ H; obtain ⟨⟨cF, CI, l6⟩, IJ, H⟩ := H
       (try dsimp only at H)
       replace H := bd_ H; obtain ⟨⟨en, l7, og⟩, IK, H⟩ := H
       (try dsimp only at H)
       have HC130 := aa_.mk H
       clear H
       go_upto_region 18 with (first | (go_at_call 14; (with_reducible refine (bq_.calls iX _ _ l1 bo iY _ ?_ ?_ II.out).mono ?_); exact (Z10 HR1); exact HC1.out; rintro e LJ ⟨LK, rfl, ho0, hb⟩; refine k2_ Wo_ Ws_ ?_; clear HB; intro bO HB; (try clear hb ho0); obtain ⟨ls, lu, sX⟩ := Kd.pW_ bO.out; subst sX) | (go_at_call 15; (with_reducible refine (az_.calls iX _ _ bo iY cF CI l6 _ ?_ ?_ IJ.out).mono ?_); exact (Z3 bO); exact (Kd.pV_ bO.out).2.1; rintro e LL ⟨AR, rfl, ho0, hb⟩; refine k3_ (Yb_ bO) (Wa_ bO) Ws_ ?_; clear bO HB; intro bO cr HB; (try clear hb ho0)) | (go_at_call 16; (with_reducible refine (ay_.calls iX _ _ bo iY en l7 og _ ?_ ?_ IK.out).mono ?_); exact (Z3 bO); exact (Kd.pV_ bO.out).2.1; rintro e LM ⟨AS, rfl, ho0, hb⟩; refine k4_ (Yb_ bO) (Yb_ cr) (Wb_ bO cr) Ws_ ?_; clear bO cr HB; intro bO cr dY HB; (try clear hb ho0)))
       repeat (go_quiet (fail); go_upto_region 18 with (fail))
       (try simp only [Act.put, List.setIfInBounds_toArray, List.set_cons_zero, List.set_cons_succ])
       go_cut [168] (fun v168 wc => ∃ (kq : Nat) (lv : Bool), v168 = .bool lv ∧ aa_ (laws_FnStrokes.j2 kq l1 bo iY cF l6 en l7 lv = some r) ∧ aa_ (kq ≤ iX) ∧ aa_ (Kd.R k42 42 wc w.heap.size (fun k_ => some k_ ≠ (AR : Value).ownBlock ∧ some k_ ≠ (AS : Value).ownBlock) (.slice ls bo.length lu) bo) ∧ aa_ (Kd.R k42 42 wc w.heap.size (fun k_ => some k_ ≠ ((.slice ls bo.length lu) : Value).ownBlock ∧ some k_ ≠ (AS : Value).ownBlock) AR cF) ∧ aa_ (Kd.R k42 42 wc w.heap.size (fun k_ => some k_ ≠ ((.slice ls bo.length lu) : Value).ownBlock ∧ some k_ ≠ (AR : Value).ownBlock) AS en) ∧ aa_ (Below w.heap.size w wc))
       case first =>
        as_aux_lemma =>
         have H := HC130.out
         clear HC130
         replace H := iw_ H; obtain ⟨c135, H⟩ | ⟨c135, H⟩ := H
         ·have l8 : (l6 != og) = true := c135
          (try (have AT : decide (l6 = og) = false := by simpa using c135))
          (try (have AU : (l6 == og) = false := by simpa using c135))
          (try (have c135b3 : ¬ (l6 = og) := by simpa using c135))
          clear c135
          (first | rw [l8] | (simp only [bA_, ch_]; rw [l8]) | skip)
          have H' := aa_.mk H
          clear H
          as_aux_lemma =>
           go_wp2
           repeat (go_quiet (fail); try go_wp2)
           (refine Met.intro ?_; go_step; (repeat (first | apply dq_ | apply d8_ | apply Exists.intro)); refine ⟨?rel, rfl⟩)
           case rel => exact ⟨_, (true), (Z14), H', ⟨mJ_⟩, ⟨Z55 bO⟩, ⟨Z55 cr⟩, ⟨Z55 dY⟩, ⟨Z2⟩⟩
         have l8 : (l6 != og) = false := by simpa using c135
         (try (have AT : decide (l6 = og) = true := by simpa using c135))
         (try (have AU : (l6 == og) = true := by simpa using c135))
         clear c135
         (first | rw [l8] | (simp only [bA_, ch_]; rw [l8]) | skip)
         replace H := bd_ H; obtain ⟨IA, xR, H⟩ := H
         replace H := it_ H; obtain ⟨rfl, H⟩ | ⟨rfl, H⟩ := H
         ·have H' := aa_.mk H
          clear H
          obtain ⟨Ao138, co138, eo138⟩ := Kd.pW_ cr.out
          subst eo138
          obtain ⟨Ao139, co139, eo139⟩ := Kd.pW_ dY.out
          subst eo139
          as_aux_lemma =>
           go_wp2_with ((go_at_call 8; (with_reducible refine (aI_.calls iX _ _ cF _ _ en true _ ?_ ?_ ?_ ?_ xR.out).mono ?_); exact (Z3 cr); exact (Kd.pV_ cr.out).2.1; exact (Z3 dY); exact (Kd.pV_ dY.out).2.1; rintro e w' ⟨rfl, ⟨nd, rfl⟩⟩; (try first | exact ⟨rfl, _, dA_⟩ | exact ⟨rfl, _, dB_⟩)))
           repeat (go_quiet (fail); try go_wp2_with (fail))
           (refine Met.intro ?_; go_step; (repeat (first | apply dq_ | apply d8_ | apply Exists.intro)); refine ⟨?rel, rfl⟩)
           case rel => exact ⟨_, ((CI != l7)), (Z14), H', ⟨mJ_⟩, ⟨Z55 bO⟩, ⟨Z55 cr⟩, ⟨Z55 dY⟩, ⟨Z2⟩⟩
         have H' := aa_.mk H
         clear H
         obtain ⟨Ao140, co140, eo140⟩ := Kd.pW_ cr.out
         subst eo140
         obtain ⟨Ao141, co141, eo141⟩ := Kd.pW_ dY.out
         subst eo141
         as_aux_lemma =>
          go_wp2_with ((go_at_call 8; (with_reducible refine (aI_.calls iX _ _ cF _ _ en false _ ?_ ?_ ?_ ?_ xR.out).mono ?_); exact (Z3 cr); exact (Kd.pV_ cr.out).2.1; exact (Z3 dY); exact (Kd.pV_ dY.out).2.1; rintro e w' ⟨rfl, ⟨nd, rfl⟩⟩; (try first | exact ⟨rfl, _, dA_⟩ | exact ⟨rfl, _, dB_⟩)))
          repeat (go_quiet (fail); try go_wp2_with (fail))
          (refine Met.intro ?_; go_step; (repeat (first | apply dq_ | apply d8_ | apply Exists.intro)); refine ⟨?rel, rfl⟩)
          case rel => exact ⟨_, (true), (Z14), H', ⟨mJ_⟩, ⟨Z55 bO⟩, ⟨Z55 cr⟩, ⟨Z55 dY⟩, ⟨Z2⟩⟩
       case rest =>
        as_aux_lemma =>
         clear HC130
         obtain ⟨kq, lv, rfl, HA, vY, ai, am, du, HB⟩ := hcut
         cases kq with
         | zero => exact absurd HA.out (by simp [laws_FnStrokes.j2])
         | succ mC =>
          have H := HA.out
          clear HA
          simp only [laws_FnStrokes.j2] at H
          replace H := it_ H; obtain ⟨rfl, H⟩ | ⟨rfl, H⟩ := H
          ·obtain rfl := Option.some.inj H
           as_aux_lemma =>
            go_wp2
            repeat (go_quiet (fail); try go_wp2)
            go_ret
            exact ⟨Z9, Z2⟩
          have HC143 := aa_.mk H
          clear H
          go_upto_if 169 with (fail)
          repeat (go_quiet (fail); go_upto_if 169 with (fail))
          go_cut [] (fun wc => ∃ (kq : Nat), aa_ (laws_FnStrokes.j5 kq l1 = some r) ∧ aa_ (kq ≤ mC) ∧ aa_ (Below w.heap.size w wc))
          case first =>
           as_aux_lemma =>
            have H := HC143.out
            clear HC143
            replace H := it_ H; obtain ⟨rfl, H⟩ | ⟨rfl, H⟩ := H
            ·replace H := bd_ H; obtain ⟨⟨sY, CJ⟩, IL, H⟩ := H
             (try dsimp only at H)
             replace H := bd_ H; obtain ⟨⟨xS, CK⟩, IM, H⟩ := H
             (try dsimp only at H)
             have HC147 := aa_.mk H
             clear H
             obtain ⟨wQ, wU, eo148⟩ := Kd.pW_ am.out
             subst eo148
             go_upto_region 23 with (first | (go_at_call 17; (with_reducible refine (bC_.calls mC _ _ cF iY sY CJ _ ?_ ?_ IL.out).mono ?_); exact (Z3 am); exact (Kd.pV_ am.out).2.1; rintro e LN ⟨rfl, hb⟩; refine k4_ (Ya_ ai) (Ya_ am) (Ya_ du) Ws_ ?_; clear ai am du HB; intro ai am du HB; (try clear hb)) | (go_at_call 17; (with_reducible refine (bC_.calls mC _ _ bo iY xS CK _ ?_ ?_ IM.out).mono ?_); exact (Z3 ai); exact (Kd.pV_ ai.out).2.1; rintro e LO ⟨rfl, hb⟩; refine k4_ (Ya_ ai) (Ya_ am) (Ya_ du) Ws_ ?_; clear ai am du HB; intro ai am du HB; (try clear hb)))
             repeat (go_quiet (fail); go_upto_region 23 with (fail))
             (try simp only [Act.put, List.setIfInBounds_toArray, List.set_cons_zero, List.set_cons_succ])
             go_cut [218] (fun v218 wc => ∃ (kq : Nat) (lw : Bool), v218 = .bool lw ∧ aa_ (laws_FnStrokes.j3 kq l1 bo cF lw = some r) ∧ aa_ (kq ≤ mC) ∧ aa_ (Kd.R k42 42 wc w.heap.size (fun k_ => some k_ ≠ ((.slice wQ cF.length wU) : Value).ownBlock) (.slice ls bo.length lu) bo) ∧ aa_ (Kd.R k42 42 wc w.heap.size (fun k_ => some k_ ≠ ((.slice ls bo.length lu) : Value).ownBlock) (.slice wQ cF.length wU) cF) ∧ aa_ (Below w.heap.size w wc))
             case first =>
              as_aux_lemma =>
               have H := HC147.out
               clear HC147
               replace H := it_ H; obtain ⟨rfl, H⟩ | ⟨rfl, H⟩ := H
               ·replace H := ic_ H; obtain ⟨jq, vF, H⟩ | ⟨jq, vF, c152, H⟩ := H
                ·(first | rw [jq] | (simp only [bA_, ch_]; rw [jq]) | skip)
                 replace H := it_ H; obtain ⟨rfl, H⟩ | ⟨rfl, H⟩ := H
                 ·replace H := iv_ H; obtain ⟨vG, H⟩ | ⟨vG, H⟩ := H
                  ·have H' := aa_.mk H
                   clear H
                   as_aux_lemma =>
                    go_wp2
                    repeat (go_quiet (fail); try go_wp2)
                    (refine Met.intro ?_; go_step; (repeat (first | apply dq_ | apply d8_ | apply Exists.intro)); refine ⟨?rel, rfl⟩)
                    case rel => exact ⟨_, (true), (Z14), H', ⟨Z97⟩, ⟨Z47 ai⟩, ⟨Z47 am⟩, ⟨Z2⟩⟩
                  replace H := iw_ H; obtain ⟨c155, H⟩ | ⟨c155, H⟩ := H
                  ·have vH : ((en.length : Int) == (bo.length : Int)) = true := beq_iff_eq.mpr c155
                   have vI : ((en.length : Int) != (bo.length : Int)) = false := bne_eq_false_iff_eq.mpr c155
                   have vJ : (en.length == bo.length) = true := by first | simpa using c155 | (simp at c155 ⊢; omega)
                   clear c155
                   replace H := iw_ H; obtain ⟨c156, H⟩ | ⟨c156, H⟩ := H
                   ·have vK : decide (0 < (bo.length : Int)) = true := decide_eq_true c156
                    have vL : decide (0 < bo.length) = true := decide_eq_true (by omega)
                    clear c156
                    replace H := ig_ H; obtain ⟨c157, H⟩ := H
                    have AV : decide (0 < (en.length : Int)) = true := decide_eq_true c157
                    have AW : decide (0 < en.length) = true := decide_eq_true (by omega)
                    clear c157
                    replace H := ig_ H; obtain ⟨c158, H⟩ := H
                    have AX : decide (0 < (bo.length : Int)) = true := decide_eq_true c158
                    have AY : decide (0 < bo.length) = true := decide_eq_true (by omega)
                    clear c158
                    have H' := aa_.mk H
                    clear H
                    obtain ⟨Ao159, co159, eo159⟩ := Kd.pW_ du.out
                    subst eo159
                    have AZ : 0 ≤ (0 : Int) := (by omega)
                    have Ba : 0 < (en.length : Int) := of_decide_eq_true (Z8)
                    obtain ⟨ad754, e754, lx, ly⟩ := cZ_ (Kd.pV_ du.out).2.2 0 AZ Ba
                    cases e754
                    have qi754 : (0 < en.length) = True := eq_true (by omega)
                    (try rw [show ((0 : Int)).toNat = 0 from rfl] at lx)
                    (try rw [show 0 * 2 = 0 from rfl] at lx)
                    (try rw [Addr.add_zero'] at lx)
                    (try rw [show ((0 : Int)).toNat = 0 from rfl] at ly)
                    (try rw [show 0 * 2 = 0 from rfl] at ly)
                    (try rw [Addr.add_zero'] at ly)
                    replace AZ := eq_true AZ
                    replace Ba := eq_true Ba
                    have Bb : 0 ≤ (0 : Int) := (by omega)
                    have Bc : 0 < (bo.length : Int) := of_decide_eq_true (Z8)
                    obtain ⟨ad755, e755, lz, lA⟩ := cZ_ (Kd.pV_ ai.out).2.2 0 Bb Bc
                    cases e755
                    have qi755 : (0 < bo.length) = True := eq_true (by omega)
                    (try rw [show ((0 : Int)).toNat = 0 from rfl] at lz)
                    (try rw [show 0 * 2 = 0 from rfl] at lz)
                    (try rw [Addr.add_zero'] at lz)
                    (try rw [show ((0 : Int)).toNat = 0 from rfl] at lA)
                    (try rw [show 0 * 2 = 0 from rfl] at lA)
                    (try rw [Addr.add_zero'] at lA)
                    replace Bb := eq_true Bb
                    replace Bc := eq_true Bc
                    as_aux_lemma =>
                     go_wp2
                     repeat (go_quiet (fail); try go_wp2)
                     (refine Met.intro ?_; go_step; (repeat (first | apply dq_ | apply d8_ | apply Exists.intro)); refine ⟨?rel, rfl⟩)
                     case rel => exact ⟨_, ((!(((ac_ en 0).f0) == ((ac_ bo 0).f0)) || (!(((ac_ en 0).f1) == ((ac_ bo 0).f1))))), (Z14), H', ⟨Z97⟩, ⟨Z47 ai⟩, ⟨Z47 am⟩, ⟨Z2⟩⟩
                   have vK : decide (0 < (bo.length : Int)) = false := decide_eq_false c156
                   have vL : decide (0 < bo.length) = false := decide_eq_false (by omega)
                   clear c156
                   have H' := aa_.mk H
                   clear H
                   obtain ⟨Ao160, co160, eo160⟩ := Kd.pW_ du.out
                   subst eo160
                   as_aux_lemma =>
                    go_wp2
                    repeat (go_quiet (fail); try go_wp2)
                    (refine Met.intro ?_; go_step; (repeat (first | apply dq_ | apply d8_ | apply Exists.intro)); refine ⟨?rel, rfl⟩)
                    case rel => exact ⟨_, (false), (Z14), H', ⟨Z97⟩, ⟨Z47 ai⟩, ⟨Z47 am⟩, ⟨Z2⟩⟩
                  have vH : ((en.length : Int) == (bo.length : Int)) = false := beq_eq_false_iff_ne.mpr c155
                  have vI : ((en.length : Int) != (bo.length : Int)) = true := bne_iff_ne.mpr c155
                  have vJ : (en.length == bo.length) = false := by first | simpa using c155 | (simp at c155 ⊢; omega)
                  have H' := aa_.mk H
                  clear H
                  obtain ⟨Ao161, co161, eo161⟩ := Kd.pW_ du.out
                  subst eo161
                  as_aux_lemma =>
                   go_wp2
                   repeat (go_quiet (fail); try go_wp2)
                   (refine Met.intro ?_; go_step; (repeat (first | apply dq_ | apply d8_ | apply Exists.intro)); refine ⟨?rel, rfl⟩)
                   case rel => exact ⟨_, (true), (Z14), H', ⟨Z97⟩, ⟨Z47 ai⟩, ⟨Z47 am⟩, ⟨Z2⟩⟩
                 have H' := aa_.mk H
                 clear H
                 as_aux_lemma =>
                  go_wp2
                  repeat (go_quiet (fail); try go_wp2)
                  (refine Met.intro ?_; go_step; (repeat (first | apply dq_ | apply d8_ | apply Exists.intro)); refine ⟨?rel, rfl⟩)
                  case rel => exact ⟨_, (true), (Z14), H', ⟨Z97⟩, ⟨Z47 ai⟩, ⟨Z47 am⟩, ⟨Z2⟩⟩
                (first | rw [jq] | (simp only [bA_, ch_]; rw [jq]) | skip)
                have H' := aa_.mk H
                clear H
                as_aux_lemma =>
                 go_wp2
                 repeat (go_quiet (fail); try go_wp2)
                 (refine Met.intro ?_; go_step; (repeat (first | apply dq_ | apply d8_ | apply Exists.intro)); refine ⟨?rel, rfl⟩)
                 case rel => exact ⟨_, (true), (Z14), H', ⟨Z97⟩, ⟨Z47 ai⟩, ⟨Z47 am⟩, ⟨Z2⟩⟩
               have H' := aa_.mk H
               clear H
               as_aux_lemma =>
                go_wp2
                repeat (go_quiet (fail); try go_wp2)
                (refine Met.intro ?_; go_step; (repeat (first | apply dq_ | apply d8_ | apply Exists.intro)); refine ⟨?rel, rfl⟩)
                case rel => exact ⟨_, (true), (Z14), H', ⟨Z97⟩, ⟨Z47 ai⟩, ⟨Z47 am⟩, ⟨Z2⟩⟩
             case rest =>
              as_aux_lemma =>
               clear HC147
               obtain ⟨kq, lw, rfl, HA, Bd, ai, am, HB⟩ := hcut
               cases kq with
               | zero => exact absurd HA.out (by simp [laws_FnStrokes.j3])
               | succ ES =>
                have H := HA.out
                clear HA
                simp only [laws_FnStrokes.j3] at H
                replace H := it_ H; obtain ⟨rfl, H⟩ | ⟨rfl, H⟩ := H
                ·obtain rfl := Option.some.inj H
                 as_aux_lemma =>
                  go_wp2
                  repeat (go_quiet (fail); try go_wp2)
                  go_ret
                  exact ⟨Z9, Z2⟩
                have H' := aa_.mk H
                clear H
                go_wp2
                repeat (go_quiet (fail); try go_wp2)
                go_loopg [30] ES (fun kq NV w' => ∃ (bf : Int), NV = .int .i64 bf ∧ aa_ (laws_FnStrokes.l0 kq l1 bo cF bf = some r) ∧ aa_ (kq ≤ ES) ∧ aa_ (Kd.R k42 42 w' w.heap.size (fun k_ => some k_ ≠ ((.slice wQ cF.length wU) : Value).ownBlock) (.slice ls bo.length lu) bo) ∧ aa_ (Kd.R k42 42 w' w.heap.size (fun k_ => some k_ ≠ ((.slice ls bo.length lu) : Value).ownBlock) (.slice wQ cF.length wU) cF) ∧ aa_ (Below w.heap.size w w'))
                case atStart => exact ⟨(1), (Z14), H', ⟨Nat.le_refl _⟩, ⟨Z1 ai⟩, ⟨Z1 am⟩, ⟨Z2⟩⟩
                case round =>
                 as_aux_lemma =>
                  clear H'
                  obtain ⟨bf, rfl, HA, HK5, ai, am, HB⟩ := hrel
                  cases gk with
                  | zero => exact absurd HA.out (by simp [laws_FnStrokes.l0])
                  | succ k5 =>
                   have H := HA.out
                   clear HA
                   simp only [laws_FnStrokes.l0] at H
                   replace H := iv_ H; obtain ⟨Be, H⟩ | ⟨Be, H⟩ := H
                   ·replace H := bd_ H; obtain ⟨⟨dw, t757⟩, fJ, H⟩ := H
                    (try dsimp only at H)
                    replace H := bd_ H; obtain ⟨⟨dL, CL⟩, fK, H⟩ := H
                    (try dsimp only at H)
                    replace H := bd_ H; obtain ⟨⟨cp, vM⟩, fL, H⟩ := H
                    (try dsimp only at H)
                    replace H := it_ H; obtain ⟨rfl, H⟩ | ⟨rfl, H⟩ := H
                    ·replace H := it_ H; obtain ⟨rfl, H⟩ | ⟨rfl, H⟩ := H
                     ·replace H := it_ H; obtain ⟨rfl, H⟩ | ⟨rfl, H⟩ := H
                      ·replace H := bd_ H; obtain ⟨IC, jn, H⟩ := H
                       replace H := it_ H; obtain ⟨rfl, H⟩ | ⟨rfl, H⟩ := H
                       ·replace H := bd_ H; obtain ⟨ID, qk, H⟩ := H
                        replace H := it_ H; obtain ⟨rfl, H⟩ | ⟨rfl, H⟩ := H
                        ·replace H := bd_ H; obtain ⟨lY, xT, H⟩ := H
                         replace H := ic_ H; obtain ⟨Bf, Bg, H⟩ | ⟨Bf, Bg, c175, H⟩ := H
                         ·have H' := aa_.mk H
                          clear H
                          as_aux_lemma =>
                           go_wp2_with (first | (go_at_call 18; (with_reducible refine (aO_.calls k5 _ _ bo bf dw true _ ?_ ?_ fJ.out).mono ?_); exact (Z3 ai); exact (Kd.pV_ ai.out).2.1; rintro e LP ⟨fZ, rfl, ho0, hb⟩; refine k4_ (Ya_ ai) (Ya_ am) Wo_ Ws_ ?_; clear ai am HB; intro ai am aq HB; (try clear hb ho0)) | (go_at_call 18; (with_reducible refine (aO_.calls k5 _ _ cF bf dL true _ ?_ ?_ fK.out).mono ?_); exact (Z3 am); exact (Kd.pV_ am.out).2.1; rintro e LQ ⟨f3, rfl, ho0, hb⟩; refine k5_ (Ya_ ai) (Ya_ am) (Yb_ aq) (Wa_ aq) Ws_ ?_; clear ai am aq HB; intro ai am aq aJ HB; (try clear hb ho0)) | (go_at_call 19; (with_reducible refine (aX_.calls k5 _ _ bo bf cp true _ ?_ ?_ fL.out).mono ?_); exact (Z3 ai); exact (Kd.pV_ ai.out).2.1; rintro e LR ⟨f4, rfl, ho0, hb⟩; refine k6_ (Ya_ ai) (Ya_ am) (Yb_ aq) (Yb_ aJ) (Wb_ aq aJ) Ws_ ?_; clear ai am aq aJ HB; intro ai am aq aJ aY HB; (try clear hb ho0); obtain ⟨EZ, E0, sZ⟩ := Kd.pW_ aq.out; subst sZ; obtain ⟨E1, E2, s9⟩ := Kd.pW_ aY.out; subst s9) | (go_at_call 20; (with_reducible refine (a3_.calls k5 _ _ dw _ _ cp true _ ?_ ?_ ?_ ?_ jn.out).mono ?_); exact (Z3 aq); exact (Kd.pV_ aq.out).2.1; exact (Z3 aY); exact (Kd.pV_ aY.out).2.1; rintro e w' ⟨rfl, ⟨nd, rfl⟩⟩; (try first | exact ⟨rfl, _, dA_⟩ | exact ⟨rfl, _, dB_⟩); obtain ⟨E3, E4, ta⟩ := Kd.pW_ aJ.out; subst ta) | (go_at_call 20; (with_reducible refine (a3_.calls k5 _ _ dL _ _ cp true _ ?_ ?_ ?_ ?_ qk.out).mono ?_); exact (Z3 aJ); exact (Kd.pV_ aJ.out).2.1; exact (Z3 aY); exact (Kd.pV_ aY.out).2.1; rintro e w' ⟨rfl, ⟨nd, rfl⟩⟩; (try first | exact ⟨rfl, _, dA_⟩ | exact ⟨rfl, _, dB_⟩)) | (go_at_call 21; (with_reducible refine (bs_.calls k5 _ _ cp lY _ ?_ ?_ xT.out).mono ?_); exact (Z3 aY); exact (Kd.pV_ aY.out).2.1; rintro e w' ⟨rfl, ⟨nd, rfl⟩⟩; (try first | exact ⟨rfl, _, dA_⟩ | exact ⟨rfl, _, dB_⟩)))
                           repeat (go_quiet (fail); try go_wp2_with (fail))
                           go_roundg k5
                           case measure => have := Gl.out; have := ym.out; have := vY.out; have := Bd.out; have := HK5.out; omega
                           case rel => exact ⟨(wrap64 (bf + 1)), (Z14), H', ⟨by have := Gl.out; have := ym.out; have := vY.out; have := Bd.out; have := HK5.out; omega⟩, ⟨Z1 ai⟩, ⟨Z1 am⟩, ⟨Z2⟩⟩
                         obtain rfl := Option.some.inj H
                         as_aux_lemma =>
                          go_wp2_with (first | (go_at_call 18; (with_reducible refine (aO_.calls k5 _ _ bo bf dw true _ ?_ ?_ fJ.out).mono ?_); exact (Z3 ai); exact (Kd.pV_ ai.out).2.1; rintro e LS ⟨fZ, rfl, ho0, hb⟩; refine k4_ (Ya_ ai) (Ya_ am) Wo_ Ws_ ?_; clear ai am HB; intro ai am aq HB; (try clear hb ho0)) | (go_at_call 18; (with_reducible refine (aO_.calls k5 _ _ cF bf dL true _ ?_ ?_ fK.out).mono ?_); exact (Z3 am); exact (Kd.pV_ am.out).2.1; rintro e LT ⟨f3, rfl, ho0, hb⟩; refine k5_ (Ya_ ai) (Ya_ am) (Yb_ aq) (Wa_ aq) Ws_ ?_; clear ai am aq HB; intro ai am aq aJ HB; (try clear hb ho0)) | (go_at_call 19; (with_reducible refine (aX_.calls k5 _ _ bo bf cp true _ ?_ ?_ fL.out).mono ?_); exact (Z3 ai); exact (Kd.pV_ ai.out).2.1; rintro e LU ⟨f4, rfl, ho0, hb⟩; refine k6_ (Ya_ ai) (Ya_ am) (Yb_ aq) (Yb_ aJ) (Wb_ aq aJ) Ws_ ?_; clear ai am aq aJ HB; intro ai am aq aJ aY HB; (try clear hb ho0); obtain ⟨E5, E6, tb⟩ := Kd.pW_ aq.out; subst tb; obtain ⟨E7, E8, tc⟩ := Kd.pW_ aY.out; subst tc) | (go_at_call 20; (with_reducible refine (a3_.calls k5 _ _ dw _ _ cp true _ ?_ ?_ ?_ ?_ jn.out).mono ?_); exact (Z3 aq); exact (Kd.pV_ aq.out).2.1; exact (Z3 aY); exact (Kd.pV_ aY.out).2.1; rintro e w' ⟨rfl, ⟨nd, rfl⟩⟩; (try first | exact ⟨rfl, _, dA_⟩ | exact ⟨rfl, _, dB_⟩); obtain ⟨E9, Fa, td⟩ := Kd.pW_ aJ.out; subst td) | (go_at_call 20; (with_reducible refine (a3_.calls k5 _ _ dL _ _ cp true _ ?_ ?_ ?_ ?_ qk.out).mono ?_); exact (Z3 aJ); exact (Kd.pV_ aJ.out).2.1; exact (Z3 aY); exact (Kd.pV_ aY.out).2.1; rintro e w' ⟨rfl, ⟨nd, rfl⟩⟩; (try first | exact ⟨rfl, _, dA_⟩ | exact ⟨rfl, _, dB_⟩)) | (go_at_call 21; (with_reducible refine (bs_.calls k5 _ _ cp lY _ ?_ ?_ xT.out).mono ?_); exact (Z3 aY); exact (Kd.pV_ aY.out).2.1; rintro e w' ⟨rfl, ⟨nd, rfl⟩⟩; (try first | exact ⟨rfl, _, dA_⟩ | exact ⟨rfl, _, dB_⟩)))
                          repeat (go_quiet (fail); try go_wp2_with (fail))
                          go_ret
                          exact ⟨Z9, Z2⟩
                        obtain rfl := Option.some.inj H
                        as_aux_lemma =>
                         go_wp2_with (first | (go_at_call 18; (with_reducible refine (aO_.calls k5 _ _ bo bf dw true _ ?_ ?_ fJ.out).mono ?_); exact (Z3 ai); exact (Kd.pV_ ai.out).2.1; rintro e LV ⟨fZ, rfl, ho0, hb⟩; refine k4_ (Ya_ ai) (Ya_ am) Wo_ Ws_ ?_; clear ai am HB; intro ai am aq HB; (try clear hb ho0)) | (go_at_call 18; (with_reducible refine (aO_.calls k5 _ _ cF bf dL true _ ?_ ?_ fK.out).mono ?_); exact (Z3 am); exact (Kd.pV_ am.out).2.1; rintro e LX ⟨f3, rfl, ho0, hb⟩; refine k5_ (Ya_ ai) (Ya_ am) (Yb_ aq) (Wa_ aq) Ws_ ?_; clear ai am aq HB; intro ai am aq aJ HB; (try clear hb ho0)) | (go_at_call 19; (with_reducible refine (aX_.calls k5 _ _ bo bf cp true _ ?_ ?_ fL.out).mono ?_); exact (Z3 ai); exact (Kd.pV_ ai.out).2.1; rintro e LY ⟨f4, rfl, ho0, hb⟩; refine k6_ (Ya_ ai) (Ya_ am) (Yb_ aq) (Yb_ aJ) (Wb_ aq aJ) Ws_ ?_; clear ai am aq aJ HB; intro ai am aq aJ aY HB; (try clear hb ho0); obtain ⟨Fb, Fc, te⟩ := Kd.pW_ aq.out; subst te; obtain ⟨Fd, Fe, tf⟩ := Kd.pW_ aY.out; subst tf) | (go_at_call 20; (with_reducible refine (a3_.calls k5 _ _ dw _ _ cp true _ ?_ ?_ ?_ ?_ jn.out).mono ?_); exact (Z3 aq); exact (Kd.pV_ aq.out).2.1; exact (Z3 aY); exact (Kd.pV_ aY.out).2.1; rintro e w' ⟨rfl, ⟨nd, rfl⟩⟩; (try first | exact ⟨rfl, _, dA_⟩ | exact ⟨rfl, _, dB_⟩); obtain ⟨Ff, Fg, tg⟩ := Kd.pW_ aJ.out; subst tg) | (go_at_call 20; (with_reducible refine (a3_.calls k5 _ _ dL _ _ cp false _ ?_ ?_ ?_ ?_ qk.out).mono ?_); exact (Z3 aJ); exact (Kd.pV_ aJ.out).2.1; exact (Z3 aY); exact (Kd.pV_ aY.out).2.1; rintro e w' ⟨rfl, ⟨nd, rfl⟩⟩; (try first | exact ⟨rfl, _, dA_⟩ | exact ⟨rfl, _, dB_⟩)))
                         repeat (go_quiet (fail); try go_wp2_with (fail))
                         go_ret
                         exact ⟨Z9, Z2⟩
                       obtain rfl := Option.some.inj H
                       as_aux_lemma =>
                        go_wp2_with (first | (go_at_call 18; (with_reducible refine (aO_.calls k5 _ _ bo bf dw true _ ?_ ?_ fJ.out).mono ?_); exact (Z3 ai); exact (Kd.pV_ ai.out).2.1; rintro e LZ ⟨fZ, rfl, ho0, hb⟩; refine k4_ (Ya_ ai) (Ya_ am) Wo_ Ws_ ?_; clear ai am HB; intro ai am aq HB; (try clear hb ho0)) | (go_at_call 18; (with_reducible refine (aO_.calls k5 _ _ cF bf dL true _ ?_ ?_ fK.out).mono ?_); exact (Z3 am); exact (Kd.pV_ am.out).2.1; rintro e L0 ⟨f3, rfl, ho0, hb⟩; refine k5_ (Ya_ ai) (Ya_ am) (Yb_ aq) (Wa_ aq) Ws_ ?_; clear ai am aq HB; intro ai am aq aJ HB; (try clear hb ho0)) | (go_at_call 19; (with_reducible refine (aX_.calls k5 _ _ bo bf cp true _ ?_ ?_ fL.out).mono ?_); exact (Z3 ai); exact (Kd.pV_ ai.out).2.1; rintro e L3 ⟨f4, rfl, ho0, hb⟩; refine k6_ (Ya_ ai) (Ya_ am) (Yb_ aq) (Yb_ aJ) (Wb_ aq aJ) Ws_ ?_; clear ai am aq aJ HB; intro ai am aq aJ aY HB; (try clear hb ho0); obtain ⟨Fh, Fi, th⟩ := Kd.pW_ aq.out; subst th; obtain ⟨Fj, Fk, ti⟩ := Kd.pW_ aY.out; subst ti) | (go_at_call 20; (with_reducible refine (a3_.calls k5 _ _ dw _ _ cp false _ ?_ ?_ ?_ ?_ jn.out).mono ?_); exact (Z3 aq); exact (Kd.pV_ aq.out).2.1; exact (Z3 aY); exact (Kd.pV_ aY.out).2.1; rintro e w' ⟨rfl, ⟨nd, rfl⟩⟩; (try first | exact ⟨rfl, _, dA_⟩ | exact ⟨rfl, _, dB_⟩)))
                        repeat (go_quiet (fail); try go_wp2_with (fail))
                        go_ret
                        exact ⟨Z9, Z2⟩
                      obtain rfl := Option.some.inj H
                      as_aux_lemma =>
                       go_wp2_with (first | (go_at_call 18; (with_reducible refine (aO_.calls k5 _ _ bo bf dw true _ ?_ ?_ fJ.out).mono ?_); exact (Z3 ai); exact (Kd.pV_ ai.out).2.1; rintro e L4 ⟨fZ, rfl, ho0, hb⟩; refine k4_ (Ya_ ai) (Ya_ am) Wo_ Ws_ ?_; clear ai am HB; intro ai am aq HB; (try clear hb ho0)) | (go_at_call 18; (with_reducible refine (aO_.calls k5 _ _ cF bf dL true _ ?_ ?_ fK.out).mono ?_); exact (Z3 am); exact (Kd.pV_ am.out).2.1; rintro e L5 ⟨f3, rfl, ho0, hb⟩; refine k5_ (Ya_ ai) (Ya_ am) (Yb_ aq) (Wa_ aq) Ws_ ?_; clear ai am aq HB; intro ai am aq aJ HB; (try clear hb ho0)) | (go_at_call 19; (with_reducible refine (aX_.calls k5 _ _ bo bf cp false _ ?_ ?_ fL.out).mono ?_); exact (Z3 ai); exact (Kd.pV_ ai.out).2.1; rintro e L6 ⟨f4, rfl, ho0, hb⟩; refine k6_ (Ya_ ai) (Ya_ am) (Yb_ aq) (Yb_ aJ) (Wb_ aq aJ) Ws_ ?_; clear ai am aq aJ HB; intro ai am aq aJ aY HB; (try clear hb ho0)))
                       repeat (go_quiet (fail); try go_wp2_with (fail))
                       go_ret
                       exact ⟨Z9, Z2⟩
                     obtain rfl := Option.some.inj H
                     as_aux_lemma =>
                      go_wp2_with (first | (go_at_call 18; (with_reducible refine (aO_.calls k5 _ _ bo bf dw true _ ?_ ?_ fJ.out).mono ?_); exact (Z3 ai); exact (Kd.pV_ ai.out).2.1; rintro e L7 ⟨fZ, rfl, ho0, hb⟩; refine k4_ (Ya_ ai) (Ya_ am) Wo_ Ws_ ?_; clear ai am HB; intro ai am aq HB; (try clear hb ho0)) | (go_at_call 18; (with_reducible refine (aO_.calls k5 _ _ cF bf dL false _ ?_ ?_ fK.out).mono ?_); exact (Z3 am); exact (Kd.pV_ am.out).2.1; rintro e L8 ⟨f3, rfl, ho0, hb⟩; refine k5_ (Ya_ ai) (Ya_ am) (Yb_ aq) (Wa_ aq) Ws_ ?_; clear ai am aq HB; intro ai am aq aJ HB; (try clear hb ho0)) | (go_at_call 19; (with_reducible refine (aX_.calls k5 _ _ bo bf cp vM _ ?_ ?_ fL.out).mono ?_); exact (Z3 ai); exact (Kd.pV_ ai.out).2.1; rintro e L9 ⟨f4, rfl, ho0, hb⟩; refine k6_ (Ya_ ai) (Ya_ am) (Yb_ aq) (Yb_ aJ) (Wb_ aq aJ) Ws_ ?_; clear ai am aq aJ HB; intro ai am aq aJ aY HB; (try clear hb ho0)))
                      repeat (go_quiet (fail); try go_wp2_with (fail))
                      go_ret
                      exact ⟨Z9, Z2⟩
                    obtain rfl := Option.some.inj H
                    as_aux_lemma =>
                     go_wp2_with (first | (go_at_call 18; (with_reducible refine (aO_.calls k5 _ _ bo bf dw false _ ?_ ?_ fJ.out).mono ?_); exact (Z3 ai); exact (Kd.pV_ ai.out).2.1; rintro e Ma ⟨fZ, rfl, ho0, hb⟩; refine k4_ (Ya_ ai) (Ya_ am) Wo_ Ws_ ?_; clear ai am HB; intro ai am aq HB; (try clear hb ho0)) | (go_at_call 18; (with_reducible refine (aO_.calls k5 _ _ cF bf dL CL _ ?_ ?_ fK.out).mono ?_); exact (Z3 am); exact (Kd.pV_ am.out).2.1; rintro e Mb ⟨f3, rfl, ho0, hb⟩; refine k5_ (Ya_ ai) (Ya_ am) (Yb_ aq) (Wa_ aq) Ws_ ?_; clear ai am aq HB; intro ai am aq aJ HB; (try clear hb ho0)) | (go_at_call 19; (with_reducible refine (aX_.calls k5 _ _ bo bf cp vM _ ?_ ?_ fL.out).mono ?_); exact (Z3 ai); exact (Kd.pV_ ai.out).2.1; rintro e Mc ⟨f4, rfl, ho0, hb⟩; refine k6_ (Ya_ ai) (Ya_ am) (Yb_ aq) (Yb_ aJ) (Wb_ aq aJ) Ws_ ?_; clear ai am aq aJ HB; intro ai am aq aJ aY HB; (try clear hb ho0)))
                     repeat (go_quiet (fail); try go_wp2_with (fail))
                     go_ret
                     exact ⟨Z9, Z2⟩
                   have H' := aa_.mk H
                   clear H
                   as_aux_lemma =>
                    go_wp2
                    repeat (go_quiet (fail); try go_wp2)
                    (refine Met.intro ?_; go_step; (repeat (first | apply dq_ | apply d8_ | apply Exists.intro)); refine ⟨?rel, rfl⟩)
                    case rel => exact ⟨_, H', ⟨by have := Gl.out; have := ym.out; have := vY.out; have := Bd.out; have := HK5.out; first | omega | exact Nat.le_refl _⟩, ⟨Z2⟩⟩
            have H' := aa_.mk H
            clear H
            as_aux_lemma =>
             go_wp2
             repeat (go_quiet (fail); try go_wp2)
             (refine Met.intro ?_; go_step; (repeat (first | apply dq_ | apply d8_ | apply Exists.intro)); refine ⟨?rel, rfl⟩)
             case rel => exact ⟨_, H', ⟨Z97⟩, ⟨Z2⟩⟩
          case rest =>
           as_aux_lemma =>
            clear HC143
            obtain ⟨kq, HA, HJ142, HB⟩ := hcut
            cases kq with
            | zero => exact absurd HA.out (by simp [laws_FnStrokes.j5])
            | succ aW =>
             have H := HA.out
             clear HA
             simp only [laws_FnStrokes.j5] at H
             replace H := bd_ H; obtain ⟨cn, jr, H⟩ := H
             replace H := bd_ H; obtain ⟨⟨eb, eZ⟩, js, H⟩ := H
             (try dsimp only at H)
             replace H := bd_ H; obtain ⟨⟨ec, e0⟩, d9, H⟩ := H
             (try dsimp only at H)
             replace H := bd_ H; obtain ⟨ch, jt, H⟩ := H
             replace H := bd_ H; obtain ⟨⟨f5, eM⟩, ju, H⟩ := H
             (try dsimp only at H)
             replace H := bd_ H; obtain ⟨⟨f6, e3⟩, jv, H⟩ := H
             (try dsimp only at H)
             replace H := iw_ H; obtain ⟨c214, H⟩ | ⟨c214, H⟩ := H
             ·have c214b0 : (eZ == e0) = true := c214
              (try (have c214b1 : decide (eZ = e0) = true := by simpa using c214))
              (try (have c214b2 : (eZ == e0) = true := by simpa using c214))
              clear c214
              replace H := bd_ H; obtain ⟨IB, mP, H⟩ := H
              replace H := it_ H; obtain ⟨rfl, H⟩ | ⟨rfl, H⟩ := H
              ·replace H := iw_ H; obtain ⟨c217, H⟩ | ⟨c217, H⟩ := H
               ·have c217b0 : (eM == e3) = true := c217
                (try (have c217b1 : decide (eM = e3) = true := by simpa using c217))
                (try (have c217b2 : (eM == e3) = true := by simpa using c217))
                clear c217
                replace H := iw_ H; obtain ⟨c218, H⟩ | ⟨c218, H⟩ := H
                ·have c218b0 : (f5.toList == f6.toList) = true := beq_iff_eq.mpr c218
                 have c218b1 : (f5.toList != f6.toList) = false := bne_eq_false_iff_eq.mpr c218
                 clear c218
                 replace H := bd_ H; obtain ⟨xQ, IN, H⟩ := H
                 replace H : (some (xQ == eM)) = some r := H
                 obtain rfl := Option.some.inj H
                 as_aux_lemma =>
                  go_wp2_with (first | (go_at_call 22; (with_reducible refine (bm_.calls aW _ _ l1 cn _ ?_ ?_ jr.out).mono ?_); exact (Z10 HR1); exact HC1.out; rintro e Md ⟨lB, rfl, ho0, hb⟩; refine k2_ Wo_ Ws_ ?_; clear HB; intro ah HB; (try clear hb ho0); obtain ⟨Ft, Fu, tj⟩ := Kd.pW_ ah.out; subst tj) | (go_at_call 9; (with_reducible refine (aT_.calls aW _ _ cn eb eZ _ ?_ ?_ js.out).mono ?_); exact (Z3 ah); exact (Kd.pV_ ah.out).2.1; rintro e Me ⟨lC, rfl, ho0, hb⟩; refine k3_ (Ya_ ah) Wo_ Ws_ ?_; clear ah HB; intro ah ao HB; (try clear hb ho0)) | (go_at_call 23; (with_reducible refine (af_.calls aW _ _ cn ec e0 _ ?_ ?_ d9.out).mono ?_); exact (Z3 ah); exact (Kd.pV_ ah.out).2.1; rintro e Mf ⟨lD, rfl, ho0, hb⟩; refine k4_ (Ya_ ah) (Yb_ ao) (Wa_ ao) Ws_ ?_; clear ah ao HB; intro ah ao ax HB; (try clear hb ho0)) | (go_at_call 24; (with_reducible refine (bf_.calls aW _ _ l1 ch _ ?_ ?_ jt.out).mono ?_); exact (Z10 HR1); exact HC1.out; rintro e Mg ⟨lE, rfl, ho0, hb⟩; refine k5_ (Yb_ ah) (Ya_ ao) (Ya_ ax) (Wa_ ah) Ws_ ?_; clear ah ao ax HB; intro ah ao ax ay HB; (try clear hb ho0); obtain ⟨Fv, Fw, tk⟩ := Kd.pW_ ay.out; subst tk) | (go_at_call 25; (with_reducible refine (aN_.calls aW _ _ ch f5 eM _ ?side1 ?side2 ju.out ?sideT).mono ?_); (case sideT => exact tb_ HT.out (Z2)); (case side1 => exact Z3 ay); (case side2 => exact (Kd.pV_ ay.out).2.1); rintro e Mh ⟨rfl, hb⟩; refine k5_ (Ya_ ah) (Ya_ ao) (Ya_ ax) (Ya_ ay) Ws_ ?_; clear ah ao ax ay HB; intro ah ao ax ay HB; (try clear hb)) | (go_at_call 26; (with_reducible refine (aL_.calls aW _ _ ch f6 e3 _ ?_ ?_ jv.out).mono ?_); exact (Z3 ay); exact (Kd.pV_ ay.out).2.1; rintro e Mi ⟨rfl, hb⟩; refine k5_ (Ya_ ah) (Ya_ ao) (Ya_ ax) (Ya_ ay) Ws_ ?_; clear ah ao ax ay HB; intro ah ao ax ay HB; (try clear hb); obtain ⟨Fx, Fy, tl⟩ := Kd.pW_ ao.out; subst tl; obtain ⟨Fz, FA, tm⟩ := Kd.pW_ ax.out; subst tm) | (go_at_call 12; (with_reducible refine (aJ_.calls aW _ _ eb _ _ ec true _ ?_ ?_ ?_ ?_ mP.out).mono ?_); exact (Z3 ao); exact (Kd.pV_ ao.out).2.1; exact (Z3 ax); exact (Kd.pV_ ax.out).2.1; rintro e w' ⟨rfl, ⟨nd, rfl⟩⟩; (try first | exact ⟨rfl, _, dA_⟩ | exact ⟨rfl, _, dB_⟩)) | (go_at_call 13; (with_reducible refine (ap_.calls aW _ _ ch xQ _ ?_ ?_ IN.out).mono ?_); exact (Z3 ay); exact (Kd.pV_ ay.out).2.1; rintro e Mj ⟨rfl, hb⟩; refine k5_ (Ya_ ah) (Ya_ ao) (Ya_ ax) (Ya_ ay) Ws_ ?_; clear ah ao ax ay HB; intro ah ao ax ay HB; (try clear hb)))
                  repeat (go_quiet (fail); try go_wp2_with (fail))
                  go_ret
                  exact ⟨Z9, Z2⟩
                have c218b0 : (f5.toList == f6.toList) = false := beq_eq_false_iff_ne.mpr c218
                have c218b1 : (f5.toList != f6.toList) = true := bne_iff_ne.mpr c218
                obtain rfl := Option.some.inj H
                as_aux_lemma =>
                 go_wp2_with (first | (go_at_call 22; (with_reducible refine (bm_.calls aW _ _ l1 cn _ ?_ ?_ jr.out).mono ?_); exact (Z10 HR1); exact HC1.out; rintro e Mk ⟨lB, rfl, ho0, hb⟩; refine k2_ Wo_ Ws_ ?_; clear HB; intro ah HB; (try clear hb ho0); obtain ⟨FB, FC, tn⟩ := Kd.pW_ ah.out; subst tn) | (go_at_call 9; (with_reducible refine (aT_.calls aW _ _ cn eb eZ _ ?_ ?_ js.out).mono ?_); exact (Z3 ah); exact (Kd.pV_ ah.out).2.1; rintro e Ml ⟨lC, rfl, ho0, hb⟩; refine k3_ (Ya_ ah) Wo_ Ws_ ?_; clear ah HB; intro ah ao HB; (try clear hb ho0)) | (go_at_call 23; (with_reducible refine (af_.calls aW _ _ cn ec e0 _ ?_ ?_ d9.out).mono ?_); exact (Z3 ah); exact (Kd.pV_ ah.out).2.1; rintro e Mm ⟨lD, rfl, ho0, hb⟩; refine k4_ (Ya_ ah) (Yb_ ao) (Wa_ ao) Ws_ ?_; clear ah ao HB; intro ah ao ax HB; (try clear hb ho0)) | (go_at_call 24; (with_reducible refine (bf_.calls aW _ _ l1 ch _ ?_ ?_ jt.out).mono ?_); exact (Z10 HR1); exact HC1.out; rintro e Mn ⟨lE, rfl, ho0, hb⟩; refine k5_ (Yb_ ah) (Ya_ ao) (Ya_ ax) (Wa_ ah) Ws_ ?_; clear ah ao ax HB; intro ah ao ax ay HB; (try clear hb ho0); obtain ⟨FD, FE, tp⟩ := Kd.pW_ ay.out; subst tp) | (go_at_call 25; (with_reducible refine (aN_.calls aW _ _ ch f5 eM _ ?side1 ?side2 ju.out ?sideT).mono ?_); (case sideT => exact tb_ HT.out (Z2)); (case side1 => exact Z3 ay); (case side2 => exact (Kd.pV_ ay.out).2.1); rintro e Mo ⟨rfl, hb⟩; refine k5_ (Ya_ ah) (Ya_ ao) (Ya_ ax) (Ya_ ay) Ws_ ?_; clear ah ao ax ay HB; intro ah ao ax ay HB; (try clear hb)) | (go_at_call 26; (with_reducible refine (aL_.calls aW _ _ ch f6 e3 _ ?_ ?_ jv.out).mono ?_); exact (Z3 ay); exact (Kd.pV_ ay.out).2.1; rintro e Mp ⟨rfl, hb⟩; refine k5_ (Ya_ ah) (Ya_ ao) (Ya_ ax) (Ya_ ay) Ws_ ?_; clear ah ao ax ay HB; intro ah ao ax ay HB; (try clear hb); obtain ⟨FF, FG, tq⟩ := Kd.pW_ ao.out; subst tq; obtain ⟨FH, FI, tr⟩ := Kd.pW_ ax.out; subst tr) | (go_at_call 12; (with_reducible refine (aJ_.calls aW _ _ eb _ _ ec true _ ?_ ?_ ?_ ?_ mP.out).mono ?_); exact (Z3 ao); exact (Kd.pV_ ao.out).2.1; exact (Z3 ax); exact (Kd.pV_ ax.out).2.1; rintro e w' ⟨rfl, ⟨nd, rfl⟩⟩; (try first | exact ⟨rfl, _, dA_⟩ | exact ⟨rfl, _, dB_⟩)))
                 repeat (go_quiet (fail); try go_wp2_with (fail))
                 go_ret
                 exact ⟨Z9, Z2⟩
               have c217b0 : (eM == e3) = false := by simpa using c217
               (try (have c217b1 : decide (eM = e3) = false := by simpa using c217))
               (try (have c217b2 : (eM == e3) = false := by simpa using c217))
               (try (have c217b3 : ¬ (eM = e3) := by simpa using c217))
               clear c217
               obtain rfl := Option.some.inj H
               as_aux_lemma =>
                go_wp2_with (first | (go_at_call 22; (with_reducible refine (bm_.calls aW _ _ l1 cn _ ?_ ?_ jr.out).mono ?_); exact (Z10 HR1); exact HC1.out; rintro e Mq ⟨lB, rfl, ho0, hb⟩; refine k2_ Wo_ Ws_ ?_; clear HB; intro ah HB; (try clear hb ho0); obtain ⟨FJ, FL, tt⟩ := Kd.pW_ ah.out; subst tt) | (go_at_call 9; (with_reducible refine (aT_.calls aW _ _ cn eb eZ _ ?_ ?_ js.out).mono ?_); exact (Z3 ah); exact (Kd.pV_ ah.out).2.1; rintro e Mr ⟨lC, rfl, ho0, hb⟩; refine k3_ (Ya_ ah) Wo_ Ws_ ?_; clear ah HB; intro ah ao HB; (try clear hb ho0)) | (go_at_call 23; (with_reducible refine (af_.calls aW _ _ cn ec e0 _ ?_ ?_ d9.out).mono ?_); exact (Z3 ah); exact (Kd.pV_ ah.out).2.1; rintro e Ms ⟨lD, rfl, ho0, hb⟩; refine k4_ (Ya_ ah) (Yb_ ao) (Wa_ ao) Ws_ ?_; clear ah ao HB; intro ah ao ax HB; (try clear hb ho0)) | (go_at_call 24; (with_reducible refine (bf_.calls aW _ _ l1 ch _ ?_ ?_ jt.out).mono ?_); exact (Z10 HR1); exact HC1.out; rintro e Mt ⟨lE, rfl, ho0, hb⟩; refine k5_ (Yb_ ah) (Ya_ ao) (Ya_ ax) (Wa_ ah) Ws_ ?_; clear ah ao ax HB; intro ah ao ax ay HB; (try clear hb ho0); obtain ⟨FM, FN, tu⟩ := Kd.pW_ ay.out; subst tu) | (go_at_call 25; (with_reducible refine (aN_.calls aW _ _ ch f5 eM _ ?side1 ?side2 ju.out ?sideT).mono ?_); (case sideT => exact tb_ HT.out (Z2)); (case side1 => exact Z3 ay); (case side2 => exact (Kd.pV_ ay.out).2.1); rintro e Mu ⟨rfl, hb⟩; refine k5_ (Ya_ ah) (Ya_ ao) (Ya_ ax) (Ya_ ay) Ws_ ?_; clear ah ao ax ay HB; intro ah ao ax ay HB; (try clear hb)) | (go_at_call 26; (with_reducible refine (aL_.calls aW _ _ ch f6 e3 _ ?_ ?_ jv.out).mono ?_); exact (Z3 ay); exact (Kd.pV_ ay.out).2.1; rintro e Mv ⟨rfl, hb⟩; refine k5_ (Ya_ ah) (Ya_ ao) (Ya_ ax) (Ya_ ay) Ws_ ?_; clear ah ao ax ay HB; intro ah ao ax ay HB; (try clear hb); obtain ⟨FO, FP, tv⟩ := Kd.pW_ ao.out; subst tv; obtain ⟨FQ, FR, tw⟩ := Kd.pW_ ax.out; subst tw) | (go_at_call 12; (with_reducible refine (aJ_.calls aW _ _ eb _ _ ec true _ ?_ ?_ ?_ ?_ mP.out).mono ?_); exact (Z3 ao); exact (Kd.pV_ ao.out).2.1; exact (Z3 ax); exact (Kd.pV_ ax.out).2.1; rintro e w' ⟨rfl, ⟨nd, rfl⟩⟩; (try first | exact ⟨rfl, _, dA_⟩ | exact ⟨rfl, _, dB_⟩)))
                repeat (go_quiet (fail); try go_wp2_with (fail))
                go_ret
                exact ⟨Z9, Z2⟩
              obtain rfl := Option.some.inj H
              as_aux_lemma =>
               go_wp2_with (first | (go_at_call 22; (with_reducible refine (bm_.calls aW _ _ l1 cn _ ?_ ?_ jr.out).mono ?_); exact (Z10 HR1); exact HC1.out; rintro e Mw ⟨lB, rfl, ho0, hb⟩; refine k2_ Wo_ Ws_ ?_; clear HB; intro ah HB; (try clear hb ho0); obtain ⟨FS, FT, tx⟩ := Kd.pW_ ah.out; subst tx) | (go_at_call 9; (with_reducible refine (aT_.calls aW _ _ cn eb eZ _ ?_ ?_ js.out).mono ?_); exact (Z3 ah); exact (Kd.pV_ ah.out).2.1; rintro e Mx ⟨lC, rfl, ho0, hb⟩; refine k3_ (Ya_ ah) Wo_ Ws_ ?_; clear ah HB; intro ah ao HB; (try clear hb ho0)) | (go_at_call 23; (with_reducible refine (af_.calls aW _ _ cn ec e0 _ ?_ ?_ d9.out).mono ?_); exact (Z3 ah); exact (Kd.pV_ ah.out).2.1; rintro e My ⟨lD, rfl, ho0, hb⟩; refine k4_ (Ya_ ah) (Yb_ ao) (Wa_ ao) Ws_ ?_; clear ah ao HB; intro ah ao ax HB; (try clear hb ho0)) | (go_at_call 24; (with_reducible refine (bf_.calls aW _ _ l1 ch _ ?_ ?_ jt.out).mono ?_); exact (Z10 HR1); exact HC1.out; rintro e Mz ⟨lE, rfl, ho0, hb⟩; refine k5_ (Yb_ ah) (Ya_ ao) (Ya_ ax) (Wa_ ah) Ws_ ?_; clear ah ao ax HB; intro ah ao ax ay HB; (try clear hb ho0); obtain ⟨FU, FV, tz⟩ := Kd.pW_ ay.out; subst tz) | (go_at_call 25; (with_reducible refine (aN_.calls aW _ _ ch f5 eM _ ?side1 ?side2 ju.out ?sideT).mono ?_); (case sideT => exact tb_ HT.out (Z2)); (case side1 => exact Z3 ay); (case side2 => exact (Kd.pV_ ay.out).2.1); rintro e MA ⟨rfl, hb⟩; refine k5_ (Ya_ ah) (Ya_ ao) (Ya_ ax) (Ya_ ay) Ws_ ?_; clear ah ao ax ay HB; intro ah ao ax ay HB; (try clear hb)) | (go_at_call 26; (with_reducible refine (aL_.calls aW _ _ ch f6 e3 _ ?_ ?_ jv.out).mono ?_); exact (Z3 ay); exact (Kd.pV_ ay.out).2.1; rintro e MB ⟨rfl, hb⟩; refine k5_ (Ya_ ah) (Ya_ ao) (Ya_ ax) (Ya_ ay) Ws_ ?_; clear ah ao ax ay HB; intro ah ao ax ay HB; (try clear hb); obtain ⟨FW, FX, tA⟩ := Kd.pW_ ao.out; subst tA; obtain ⟨FY, FZ, tB⟩ := Kd.pW_ ax.out; subst tB) | (go_at_call 12; (with_reducible refine (aJ_.calls aW _ _ eb _ _ ec false _ ?_ ?_ ?_ ?_ mP.out).mono ?_); exact (Z3 ao); exact (Kd.pV_ ao.out).2.1; exact (Z3 ax); exact (Kd.pV_ ax.out).2.1; rintro e w' ⟨rfl, ⟨nd, rfl⟩⟩; (try first | exact ⟨rfl, _, dA_⟩ | exact ⟨rfl, _, dB_⟩)))
               repeat (go_quiet (fail); try go_wp2_with (fail))
               go_ret
               exact ⟨Z9, Z2⟩
             have c214b0 : (eZ == e0) = false := by simpa using c214
             (try (have c214b1 : decide (eZ = e0) = false := by simpa using c214))
             (try (have c214b2 : (eZ == e0) = false := by simpa using c214))
             (try (have c214b3 : ¬ (eZ = e0) := by simpa using c214))
             clear c214
             obtain rfl := Option.some.inj H
             as_aux_lemma =>
              go_wp2_with (first | (go_at_call 22; (with_reducible refine (bm_.calls aW _ _ l1 cn _ ?_ ?_ jr.out).mono ?_); exact (Z10 HR1); exact HC1.out; rintro e MC ⟨lB, rfl, ho0, hb⟩; refine k2_ Wo_ Ws_ ?_; clear HB; intro ah HB; (try clear hb ho0); obtain ⟨F0, F1, tC⟩ := Kd.pW_ ah.out; subst tC) | (go_at_call 9; (with_reducible refine (aT_.calls aW _ _ cn eb eZ _ ?_ ?_ js.out).mono ?_); exact (Z3 ah); exact (Kd.pV_ ah.out).2.1; rintro e MD ⟨lC, rfl, ho0, hb⟩; refine k3_ (Ya_ ah) Wo_ Ws_ ?_; clear ah HB; intro ah ao HB; (try clear hb ho0)) | (go_at_call 23; (with_reducible refine (af_.calls aW _ _ cn ec e0 _ ?_ ?_ d9.out).mono ?_); exact (Z3 ah); exact (Kd.pV_ ah.out).2.1; rintro e ME ⟨lD, rfl, ho0, hb⟩; refine k4_ (Ya_ ah) (Yb_ ao) (Wa_ ao) Ws_ ?_; clear ah ao HB; intro ah ao ax HB; (try clear hb ho0)) | (go_at_call 24; (with_reducible refine (bf_.calls aW _ _ l1 ch _ ?_ ?_ jt.out).mono ?_); exact (Z10 HR1); exact HC1.out; rintro e MF ⟨lE, rfl, ho0, hb⟩; refine k5_ (Yb_ ah) (Ya_ ao) (Ya_ ax) (Wa_ ah) Ws_ ?_; clear ah ao ax HB; intro ah ao ax ay HB; (try clear hb ho0); obtain ⟨F2, F3, tD⟩ := Kd.pW_ ay.out; subst tD) | (go_at_call 25; (with_reducible refine (aN_.calls aW _ _ ch f5 eM _ ?side1 ?side2 ju.out ?sideT).mono ?_); (case sideT => exact tb_ HT.out (Z2)); (case side1 => exact Z3 ay); (case side2 => exact (Kd.pV_ ay.out).2.1); rintro e MG ⟨rfl, hb⟩; refine k5_ (Ya_ ah) (Ya_ ao) (Ya_ ax) (Ya_ ay) Ws_ ?_; clear ah ao ax ay HB; intro ah ao ax ay HB; (try clear hb)) | (go_at_call 26; (with_reducible refine (aL_.calls aW _ _ ch f6 e3 _ ?_ ?_ jv.out).mono ?_); exact (Z3 ay); exact (Kd.pV_ ay.out).2.1; rintro e MH ⟨rfl, hb⟩; refine k5_ (Ya_ ah) (Ya_ ao) (Ya_ ax) (Ya_ ay) Ws_ ?_; clear ah ao ax ay HB; intro ah ao ax ay HB; (try clear hb)))
              repeat (go_quiet (fail); try go_wp2_with (fail))
              go_ret
              exact ⟨Z9, Z2⟩
theorem laws_FnStrokes.walk (P : laws_FnStrokes.Pure) (a0 : Option Addr) (len0 cap0 : Nat) (z0 : List Int) (a1 : Option Addr) (len1 cap1 : Nat) (z1 : List Int) (w : World) (w0 : (a0 = none ∧ len0 = 0 ∧ cap0 = 0 ∧ z0 = []) ∨ ∃ x, a0 = some x ∧ len0 ≤ cap0 ∧ cap0 ≤ maxLen ∧ z0.length = cap0 ∧ (∀ i, i < z0.length → w.cell? (x.add i) = some (.int .u8 (z0.getD i 0))) ∧ ∀ n ∈ z0, (Lit.int .u8 n).wf = true) (y0 : len0 * 1 ≤ 140737488351232) (w1 : (a1 = none ∧ len1 = 0 ∧ cap1 = 0 ∧ z1 = []) ∨ ∃ x, a1 = some x ∧ len1 ≤ cap1 ∧ cap1 ≤ maxLen ∧ z1.length = cap1 ∧ (∀ i, i < z1.length → w.cell? (x.add i) = some (.int .u8 (z1.getD i 0))) ∧ ∀ n ∈ z1, (Lit.int .u8 n).wf = true) (y1 : len1 * 1 ≤ 140737488351232) (hT : Go.Lib.TabIs Tryz.prog w "internal/strconv.uint64pow10" .u64 Go.Lib.pow10Tab) :
  Calls Tryz.prog 3 #[.slice a0 len0 cap0, .slice a1 len1 cap1] w fun e w' => e = .returned (.bool true) ∧ Below w.heap.size w w' := by
 obtain ⟨l0, rfl, hr0, hm0, hw0, hc0⟩ := bM_.ofRowC w0
 obtain ⟨l1, rfl, hr1, hm1, hw1, hc1⟩ := bM_.ofRowC w1
 obtain ⟨k, h⟩ := P l0 l1 hm0 y0 hw0 hm1 y1 hw1
 refine (laws_FnStrokes.calls k _ _ l0 _ _ l1 true w (Kd.qw_ (d := (0 : Int)) (h1 := fun _ => rfl) hr0) hc0 (Kd.qw_ (d := (0 : Int)) (h1 := fun _ => rfl) hr1) hc1 h hT).mono ?_
 rintro e w' ⟨rfl, hd⟩
 exact ⟨rfl, hd⟩
end Go.Proofs.YtcpliaahkcbinaaGreatDoor.PFnStrokes
