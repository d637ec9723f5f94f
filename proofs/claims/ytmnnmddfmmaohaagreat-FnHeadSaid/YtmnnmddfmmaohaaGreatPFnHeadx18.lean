-- written by a program of this session: the kit's print, with outer functions of the session's own (wip/ext)
import Derived.Test.YtmnnmddfmmaohaaGreatPFnHeadx0
import Derived.Test.YtmnnmddfmmaohaaGreatPFnHeadx2
import Derived.Test.YtmnnmddfmmaohaaGreatPFnHeadx8
import Derived.Test.YtmnnmddfmmaohaaGreatPFnHeadx10
import Derived.Test.YtmnnmddfmmaohaaGreatPFnHeadx11
import Derived.Test.YtmnnmddfmmaohaaGreatPFnHeadx12
import Derived.Test.YtmnnmddfmmaohaaGreatPFnHeadx13
import Derived.Test.YtmnnmddfmmaohaaGreatPFnHeadx14
import Derived.Test.YtmnnmddfmmaohaaGreatPFnHeadx15
import Derived.Test.YtmnnmddfmmaohaaGreatPFnHeadx16
import Derived.Test.YtmnnmddfmmaohaaGreatPFnHeadx17
namespace Go.Proofs.YtmnnmddfmmaohaaGreat.PFnHead
open Go.RowKit Go.Proofs.YtmnnmddfmmaohaaGreatW.PrintWords Go.Proofs.YtmnnmddfmmaohaaGreatW.PrintLast Go.Proofs.YtmnnmddfmmaohaaGreatW.PrintMore
attribute [local go_sem] max2_int min2_int max_two min_two max_three min_three max_four min_four   -- for this text's walks alone
set_option linter.unusedVariables false
set_option linter.unusedSimpArgs false
theorem ex_32 {α : Type} {p : α → α → α → α → α → α → α → α → α → α → α → α → α → α → α → α → α → α → α → α → α → α → α → α → α → α → α → α → α → α → α → α → Prop} (a0 a1 a2 a3 a4 a5 a6 a7 a8 a9 a10 a11 a12 a13 a14 a15 a16 a17 a18 a19 a20 a21 a22 a23 a24 a25 a26 a27 a28 a29 a30 a31 : α) (h : p a0 a1 a2 a3 a4 a5 a6 a7 a8 a9 a10 a11 a12 a13 a14 a15 a16 a17 a18 a19 a20 a21 a22 a23 a24 a25 a26 a27 a28 a29 a30 a31) : ∃ a0 a1 a2 a3 a4 a5 a6 a7 a8 a9 a10 a11 a12 a13 a14 a15 a16 a17 a18 a19 a20 a21 a22 a23 a24 a25 a26 a27 a28 a29 a30 a31, p a0 a1 a2 a3 a4 a5 a6 a7 a8 a9 a10 a11 a12 a13 a14 a15 a16 a17 a18 a19 a20 a21 a22 a23 a24 a25 a26 a27 a28 a29 a30 a31 := ⟨a0, a1, a2, a3, a4, a5, a6, a7, a8, a9, a10, a11, a12, a13, a14, a15, a16, a17, a18, a19, a20, a21, a22, a23, a24, a25, a26, a27, a28, a29, a30, a31, h⟩
theorem ex_8 {α : Type} {p : α → α → α → α → α → α → α → α → Prop} (a0 a1 a2 a3 a4 a5 a6 a7 : α) (h : p a0 a1 a2 a3 a4 a5 a6 a7) : ∃ a0 a1 a2 a3 a4 a5 a6 a7, p a0 a1 a2 a3 a4 a5 a6 a7 := ⟨a0, a1, a2, a3, a4, a5, a6, a7, h⟩
set_option maxHeartbeats 8000000 in
set_option maxRecDepth 100000 in
theorem laws_FnHead.calls (k : Nat) (A0 : Option Addr) (c0 : Nat) (l0 : List Int) (A1 : Option Addr) (c1 : Nat) (l1 : List Int) (r : Bool) (w : World) (hr0 : Kd.C (Kd.int .u8) w A0 l0.length l0) (hc0 : l0.length ≤ c0) (hr1 : Kd.C (Kd.int .u8) w A1 l1.length l1) (hc1 : l1.length ≤ c1) (h : laws_FnHead.f k l0 l1 = some r) :
  Calls Tryz.prog 3 #[.slice A0 l0.length c0, .slice A1 l1.length c1] w fun e w' => e = .returned (.bool r) ∧ Below w.heap.size w w' := by
 have hu30 := Tryz.underlying30
 have HR0 := Aside0.mk hr0
 have HC0 := Aside0.mk hc0
 clear hr0 hc0
 have HR1 := Aside0.mk hr1
 have HC1 := Aside0.mk hc1
 clear hr1 hc1
 have HB := Aside0.mk (Below.refl w.heap.size w)
 have H : ((laws_big.f l0 l1).bind fun tK => (if tK = true then (some true) else ((spec_DrawSwapGain.f k l0).bind fun bJ => ((impl_SwapGain.f k bJ.1 bJ.2.1 bJ.2.2.1 bJ.2.2.2).bind fun hD => ((spec_SwapGain.f k bJ.1 bJ.2.1 bJ.2.2.1 bJ.2.2.2).bind fun hF => (if (hD.2 != hF.2) = true then (laws_FnHead.j0 k l1 bJ.1 bJ.2.1 bJ.2.2.1 bJ.2.2.2 hD.2 hF.1 true) else (laws_FnHead.j0 k l1 bJ.1 bJ.2.1 bJ.2.2.1 bJ.2.2.2 hD.2 hF.1 (hD.1 != hF.1)))))))) = some r := h
 clear h
 replace H := Option.bind_eq_some_iff.mp H
 obtain ⟨tK, fN, H⟩ := H
 (try dsimp only at H)
 have A3 := Aside0.mk fN
 clear fN
 by_cases c4 : tK = true
 ·subst c4
  rw [if_pos rfl] at H
  obtain rfl := Option.some.inj H
  go_enter Tryz.func3, Tryz.ntmps3
  as_aux_lemma =>
   go_wp2_with (go_at_call 4; (with_reducible refine (laws_big.calls _ _ l0 _ _ l1 true _ ?_ ?_ ?_ ?_ A3.out).mono ?_); exact (Z18 HR0); exact HC0.out; exact (Z18 HR1); exact HC1.out; rintro e w' ⟨rfl, ⟨nd, rfl⟩⟩; (try first | exact ⟨rfl, _, World.drewN_drewN _ _ _⟩ | exact ⟨rfl, _, Eq.trans (World.drewN_drewN _ _ _) (congrArg (World.drewN _) (Nat.add_assoc _ _ _))⟩))
   repeat (go_quiet (fail); try go_wp2_with (fail))
   go_ret
   exact ⟨Z12, Z2⟩
 replace c4 := Bool.eq_false_iff.mpr c4
 subst c4
 rw [if_neg (show ¬ (false = true) by decide)] at H
 replace H := Option.bind_eq_some_iff.mp H
 obtain ⟨⟨ab, ac, ae, aE⟩, fM, H⟩ := H
 (try dsimp only at H)
 have A5 := Aside0.mk fM
 clear fM
 replace H := Option.bind_eq_some_iff.mp H
 obtain ⟨⟨vQ, iw⟩, fV, H⟩ := H
 (try dsimp only at H)
 have A6 := Aside0.mk fV
 clear fV
 replace H := Option.bind_eq_some_iff.mp H
 obtain ⟨⟨em, jM⟩, nq, H⟩ := H
 (try dsimp only at H)
 have A7 := Aside0.mk nq
 clear nq
 have HC8 := Aside0.mk H
 clear H
 go_enter Tryz.func3, Tryz.ntmps3
 go_upto_region 6 with (first | (go_at_call 4; (with_reducible refine (laws_big.calls _ _ l0 _ _ l1 false _ ?_ ?_ ?_ ?_ A3.out).mono ?_); exact (Z18 HR0); exact HC0.out; exact (Z18 HR1); exact HC1.out; rintro e w' ⟨rfl, ⟨nd, rfl⟩⟩; (try first | exact ⟨rfl, _, World.drewN_drewN _ _ _⟩ | exact ⟨rfl, _, Eq.trans (World.drewN_drewN _ _ _) (congrArg (World.drewN _) (Nat.add_assoc _ _ _))⟩)) | (go_at_call 5; (with_reducible refine (spec_DrawSwapGain.calls k _ _ l0 ab ac ae aE _ ?_ ?_ A5.out).mono ?_); exact (Z18 HR0); exact HC0.out; rintro e w9 ⟨Br, rfl, ho0, hb⟩; refine k2_ (Kd.R_lower ho0 (below_size (Z2))) (below_step (Z2) hb) ?_; clear HB; intro bz HB; (try clear hb ho0); obtain ⟨dy, aC, g4⟩ := Kd.R_slice bz.out; subst g4) | (go_at_call 6; (with_reducible refine (impl_SwapGain.calls k _ _ ab ac ae aE vQ iw _ ?_ ?_ A6.out).mono ?_); exact (Z5 bz); exact (Kd.R_reads' bz.out).2.1; rintro e lA ⟨rfl, hb⟩; refine k2_ (Ya_ bz) (below_step (Z2) hb) ?_; clear bz HB; intro bz HB; (try clear hb)) | (go_at_call 7; (with_reducible refine (spec_SwapGain.calls k _ _ ab ac ae aE em jM _ ?_ ?_ A7.out).mono ?_); exact (Z5 bz); exact (Kd.R_reads' bz.out).2.1; rintro e vy ⟨rfl, hb⟩; refine k2_ (Ya_ bz) (below_step (Z2) hb) ?_; clear bz HB; intro bz HB; (try clear hb)))
 repeat (go_quiet (fail); go_upto_region 6 with (fail))
 (try simp only [Act.put, List.setIfInBounds_toArray, List.set_cons_zero, List.set_cons_succ])
 go_cut [78] (fun v78 wc => ∃ (kq : Nat) (q9 : Bool), v78 = .bool q9 ∧ Aside0 (laws_FnHead.j0 kq l1 ab ac ae aE iw em q9 = some r) ∧ Aside0 (kq ≤ k) ∧ Aside0 (Kd.R k30 30 wc w.heap.size (fun _ => True) (.slice dy ab.length aC) ab) ∧ Aside0 (Below w.heap.size w wc))
 case first =>
  as_aux_lemma =>
   have H := HC8.out
   clear HC8
   by_cases c13 : (iw != jM) = true
   ·rw [if_pos c13] at H
    have fZ : (iw != jM) = true := c13
    (try (have xm : decide (iw = jM) = false := by simpa using c13))
    (try (have xn : (iw == jM) = false := by simpa using c13))
    (try (have c13b3 : ¬ (iw = jM) := by simpa using c13))
    clear c13
    (first | rw [fZ] | (simp only [i64_w, i32_w]; rw [fZ]) | skip)
    have H' := Aside0.mk H
    clear H
    as_aux_lemma =>
     go_wp2
     repeat (go_quiet (fail); try go_wp2)
     (refine Met.intro ?_; go_step; (repeat (first | apply ex_32 | apply ex_8 | apply Exists.intro)); refine ⟨?rel, rfl⟩)
     case rel => exact ⟨_, (true), (Z16), H', ⟨Z68⟩, ⟨Z1 bz⟩, ⟨Z2⟩⟩
   rw [if_neg c13] at H
   have fZ : (iw != jM) = false := by simpa using c13
   (try (have xm : decide (iw = jM) = true := by simpa using c13))
   (try (have xn : (iw == jM) = true := by simpa using c13))
   clear c13
   (first | rw [fZ] | (simp only [i64_w, i32_w]; rw [fZ]) | skip)
   have H' := Aside0.mk H
   clear H
   as_aux_lemma =>
    go_wp2
    repeat (go_quiet (fail); try go_wp2)
    (refine Met.intro ?_; go_step; (repeat (first | apply ex_32 | apply ex_8 | apply Exists.intro)); refine ⟨?rel, rfl⟩)
    case rel => exact ⟨_, ((vQ != em)), (Z16), H', ⟨Z68⟩, ⟨Z1 bz⟩, ⟨Z2⟩⟩
 case rest =>
  as_aux_lemma =>
   clear HC8
   (try clear c1); (try clear p2); (try clear c3); (try clear c4); (try clear c13); (try clear fZ); (try clear xm); (try clear xn)
   obtain ⟨kq, q9, rfl, HA, rA, af, HB⟩ := hcut
   cases kq with
   | zero => exact absurd HA.out (by simp [laws_FnHead.j0])
   | succ cC =>
    have H := HA.out
    clear HA
    simp only [laws_FnHead.j0] at H
    by_cases c14 : q9 = true
    ·subst c14
     rw [if_pos rfl] at H
     obtain rfl := Option.some.inj H
     as_aux_lemma =>
      go_wp2
      repeat (go_quiet (fail); try go_wp2)
      go_ret
      exact ⟨Z12, Z2⟩
    replace c14 := Bool.eq_false_iff.mpr c14
    subst c14
    rw [if_neg (show ¬ (false = true) by decide)] at H
    have HC15 := Aside0.mk H
    clear H
    go_upto_if 79 with (fail)
    repeat (go_quiet (fail); go_upto_if 79 with (fail))
    go_cut [] (fun wc => ∃ (kq : Nat), Aside0 (laws_FnHead.j1 kq l1 = some r) ∧ Aside0 (kq ≤ cC) ∧ Aside0 (Below w.heap.size w wc))
    case first =>
     as_aux_lemma =>
      have H := HC15.out
      clear HC15
      by_cases c16 : iw = true
      ·subst c16
       rw [if_pos rfl] at H
       obtain ⟨dD, n7⟩ : ∃ y_ : List (S30), y_ = (([] : List (S30))) := ⟨_, rfl⟩
       replace H : (if dD.length + ab.length < 8796093022208 then ((some (dD ++ ab : List (S30))).bind fun ak => (if 0 ≤ ae then (if ae < (ab.length : Int) then (if 0 ≤ ac then (if ac < (ak.length : Int) then (if ac < (ab.length : Int) then (if ae < (ak.length : Int) then ((some ((ak.set (ac : Int).toNat (⟨(rd_T30 ab ae).f0, (rd_T30 ab ae).f1⟩ : S30)).set (ae : Int).toNat (⟨(rd_T30 ab ac).f0, (rd_T30 ab ac).f1⟩ : S30) : List (S30))).bind fun aK => ((impl_WayOfHead.f cC ab aE).bind fun eJ => ((impl_WayOfHead.f cC aK aE).bind fun eK => ((impl_SwapGain.f cC aK ac ae aE).bind fun eL => (if eJ.2 = true then (if eK.2 = true then (if (wrap64 (eJ.1 - eK.1)) = em then (if eL.2 = true then (if eL.1 = (wrap64 (-em)) then (laws_FnHead.j1 cC l1) else (some false)) else (some false)) else (some false)) else (some false)) else (some false)))))) else (none)) else (none)) else (none)) else (none)) else (none)) else (none))) else (none)) = some r := by first | (rw [n7]; with_reducible exact H) | (have H2_ := (Option.bind_some _ _).symm.trans H; rw [n7]; with_reducible exact H2_) | (have H2_ := (Option.bind_some _ _).symm.trans H; with_reducible exact H2_) | with_reducible exact H | (rw [n7]; exact H) | exact H
       have bB := Aside0.mk n7
       clear n7
       by_cases c17 : dD.length + ab.length < 8796093022208
       ·rw [if_pos c17] at H
        have dl := Aside0.mk c17
        clear c17
        obtain ⟨ak, n8⟩ : ∃ y_ : List (S30), y_ = (dD ++ ab) := ⟨_, rfl⟩
        replace H : (if 0 ≤ ae then (if ae < (ab.length : Int) then (if 0 ≤ ac then (if ac < (ak.length : Int) then (if ac < (ab.length : Int) then (if ae < (ak.length : Int) then ((some ((ak.set (ac : Int).toNat (⟨(rd_T30 ab ae).f0, (rd_T30 ab ae).f1⟩ : S30)).set (ae : Int).toNat (⟨(rd_T30 ab ac).f0, (rd_T30 ab ac).f1⟩ : S30) : List (S30))).bind fun aK => ((impl_WayOfHead.f cC ab aE).bind fun eJ => ((impl_WayOfHead.f cC aK aE).bind fun eK => ((impl_SwapGain.f cC aK ac ae aE).bind fun eL => (if eJ.2 = true then (if eK.2 = true then (if (wrap64 (eJ.1 - eK.1)) = em then (if eL.2 = true then (if eL.1 = (wrap64 (-em)) then (laws_FnHead.j1 cC l1) else (some false)) else (some false)) else (some false)) else (some false)) else (some false)))))) else (none)) else (none)) else (none)) else (none)) else (none)) else (none)) = some r := by first | (rw [n8]; with_reducible exact H) | (have H2_ := (Option.bind_some _ _).symm.trans H; rw [n8]; with_reducible exact H2_) | (have H2_ := (Option.bind_some _ _).symm.trans H; with_reducible exact H2_) | with_reducible exact H | (rw [n8]; exact H) | exact H
        have dm := Aside0.mk n8
        clear n8
        by_cases c18 : 0 ≤ ae
        ·rw [if_pos c18] at H
         have lY : decide (0 ≤ ae) = true := decide_eq_true c18
         clear c18
         (first | rw [lY] | (simp only [i64_w, i32_w]; rw [lY]) | skip)
         by_cases c19 : ae < (ab.length : Int)
         ·rw [if_pos c19] at H
          have jA : decide (ae < (ab.length : Int)) = true := decide_eq_true c19
          clear c19
          by_cases c20 : 0 ≤ ac
          ·rw [if_pos c20] at H
           have ea : decide (0 ≤ ac) = true := decide_eq_true c20
           clear c20
           by_cases c21 : ac < (ak.length : Int)
           ·rw [if_pos c21] at H
            have iF : decide (ac < (ak.length : Int)) = true := decide_eq_true c21
            clear c21
            obtain ⟨aV, n9⟩ : ∃ y_ : List (S30), y_ = (ak.set (ac : Int).toNat (⟨(rd_T30 ab ae).f0, (rd_T30 ab ae).f1⟩ : S30)) := ⟨_, rfl⟩
            replace H : (if ac < (ab.length : Int) then (if ae < (ak.length : Int) then ((some (aV.set (ae : Int).toNat (⟨(rd_T30 ab ac).f0, (rd_T30 ab ac).f1⟩ : S30) : List (S30))).bind fun aK => ((impl_WayOfHead.f cC ab aE).bind fun eJ => ((impl_WayOfHead.f cC aK aE).bind fun eK => ((impl_SwapGain.f cC aK ac ae aE).bind fun eL => (if eJ.2 = true then (if eK.2 = true then (if (wrap64 (eJ.1 - eK.1)) = em then (if eL.2 = true then (if eL.1 = (wrap64 (-em)) then (laws_FnHead.j1 cC l1) else (some false)) else (some false)) else (some false)) else (some false)) else (some false)))))) else (none)) else (none)) = some r := by first | (rw [n9]; with_reducible exact H) | (have H2_ := (Option.bind_some _ _).symm.trans H; rw [n9]; with_reducible exact H2_) | (have H2_ := (Option.bind_some _ _).symm.trans H; with_reducible exact H2_) | with_reducible exact H | (rw [n9]; exact H) | exact H
            have dn := Aside0.mk n9
            clear n9
            by_cases c23 : ac < (ab.length : Int)
            ·rw [if_pos c23] at H
             have sK : decide (ac < (ab.length : Int)) = true := decide_eq_true c23
             clear c23
             by_cases c24 : ae < (ak.length : Int)
             ·rw [if_pos c24] at H
              have qN : decide (ae < (ak.length : Int)) = true := decide_eq_true c24
              clear c24
              obtain ⟨aK, oa⟩ : ∃ y_ : List (S30), y_ = (aV.set (ae : Int).toNat (⟨(rd_T30 ab ac).f0, (rd_T30 ab ac).f1⟩ : S30)) := ⟨_, rfl⟩
              replace H : ((impl_WayOfHead.f cC ab aE).bind fun eJ => ((impl_WayOfHead.f cC aK aE).bind fun eK => ((impl_SwapGain.f cC aK ac ae aE).bind fun eL => (if eJ.2 = true then (if eK.2 = true then (if (wrap64 (eJ.1 - eK.1)) = em then (if eL.2 = true then (if eL.1 = (wrap64 (-em)) then (laws_FnHead.j1 cC l1) else (some false)) else (some false)) else (some false)) else (some false)) else (some false))))) = some r := by first | (rw [oa]; with_reducible exact H) | (have H2_ := (Option.bind_some _ _).symm.trans H; rw [oa]; with_reducible exact H2_) | (have H2_ := (Option.bind_some _ _).symm.trans H; with_reducible exact H2_) | with_reducible exact H | (rw [oa]; exact H) | exact H
              have dp := Aside0.mk oa
              clear oa
              replace H := Option.bind_eq_some_iff.mp H
              obtain ⟨⟨en, t684⟩, Bs, H⟩ := H
              (try dsimp only at H)
              have m4 := Aside0.mk Bs
              clear Bs
              replace H := Option.bind_eq_some_iff.mp H
              obtain ⟨⟨ep, vR⟩, nc, H⟩ := H
              (try dsimp only at H)
              have gS := Aside0.mk nc
              clear nc
              replace H := Option.bind_eq_some_iff.mp H
              obtain ⟨⟨eq, lG⟩, gV, H⟩ := H
              (try dsimp only at H)
              have gW := Aside0.mk gV
              clear gV
              by_cases c29 : t684 = true
              ·subst c29
               rw [if_pos rfl] at H
               by_cases c30 : vR = true
               ·subst c30
                rw [if_pos rfl] at H
                by_cases c31 : (wrap64 (en - ep)) = em
                ·rw [if_pos c31] at H
                 have tL : ((wrap64 (en - ep)) == em) = true := beq_iff_eq.mpr c31
                 have xo : ((wrap64 (en - ep)) != em) = false := bne_eq_false_iff_eq.mpr c31
                 clear c31
                 by_cases c32 : lG = true
                 ·subst c32
                  rw [if_pos rfl] at H
                  by_cases c33 : eq = (wrap64 (-em))
                  ·rw [if_pos c33] at H
                   have ra : (eq == (wrap64 (-em))) = true := beq_iff_eq.mpr c33
                   have xp : (eq != (wrap64 (-em))) = false := bne_eq_false_iff_eq.mpr c33
                   clear c33
                   have H' := Aside0.mk H
                   clear H
                   as_aux_lemma =>
                    go_wp2_with (first | ((with_reducible refine gate_dst (N := 80) rfl ?_); (try (refine gate_guard (by rfl) ?_; dsimp only)); refine Kd.R_lit k30 _ 30 ?hg (N := 80) ?hd (xs := ([] : List (S30))) (inner := []) (ok := fun _ => True) (okp := fun _ => True) ?hr ?hp (fun _ hk => hk) trivial (Below.refl _ _) (Nat.le_refl _) (by simp) ?_; (case hd => rfl); (case hg => rfl); (case hr => exact Z29); (case hp => exact (Reps.none _ _)); intro cD ne ho35 hb hg_ hnew_; clear hg_ hnew_; (first | rw [← bB.out] at ho35 | (simp only [Int.reduceToNat] at ho35; rw [← bB.out] at ho35)); refine k3_ (Kd.R_elder' (Z1 af) (Kd.R_base ho35) hb) (Kd.R_lower (Kd.R_new' ho35 (Yd_ af)) (below_size (Z2))) (below_step (Z2) hb) ?_; clear af HB; intro af aZ HB; clear hb ho35) | ((with_reducible refine gate_builtin (b := .append) (xs := #[.tmp 80, .tmp 81]) rfl ?_); (try (refine gate_guard (by rfl) ?_; dsimp only)); at_builtin; refine Kd.R_append_rows k30 (w0 := w) w.heap.size rfl (.tmp 80) (.tmp 81) 24 30 (.agg #[(.int .i64 0), (.int .i64 0)]) 16 rfl Tryz.underlying24 info30 rfl (by decide) (by omega) cD dD ab _ _ _ (fun k_ => some k_ ≠ (.slice dy ab.length aC : Value).ownBlock) (fun _ => False) rfl rfl ?aO ?aR (fun _ _ h => h) (fun _ h => h.elim) ?aF ?aB ?aS ?aL ?_; (case aR => exact Z5 af); (case aB => exact Z2); (case aF => exact (fun k_ hk => Kd.fresh' (Yd_ af) k_ hk)); (case aO => exact (Z26 aZ)); (case aS => exact (below_size (Z2))); (case aL => exact Z76 dl); intro f4 eF ho hb hg hat; rw [← dm.out] at ho; refine k3_ (Kd.R_after (ok := (fun _ => True)) (Z1 af) hg hat) (hb) (ho) ?_; clear af HB aZ; intro af HB aa; clear ho hb hg hat; have bh : 0 ≤ (ae : Int) := of_decide_eq_true (Z4); have bi : ae < (ab.length : Int) := of_decide_eq_true (Z4); obtain ⟨au, e679, bO, bP⟩ := at_T30 (Kd.R_reads' af.out).2.2 ae bh bi; cases e679; replace bh := eq_true bh; replace bi := eq_true bi; have cx : 0 ≤ (ac : Int) := of_decide_eq_true (Z4); have cy : (ac : Int) < ((ak.length : Int) : Int) := of_decide_eq_true (Z4); obtain ⟨go22, ap, bA, bE, gl22, cl22, HG22⟩ := Kd.R_form aa.out (by omega); (first | cases bA | (injection bA with ea_ en_ ec_; (first | subst ea_ | (injection ea_ with ea_; subst ea_)); subst ec_; clear en_)); have GB22 := Aside0.mk bE; have GG22 := Aside0.mk HG22; clear bE gl22 HG22; obtain ⟨ce22, hcl22, hM22, hcc22, hfr22⟩ := Kd.R_elem aa.out z30 (ac : Int) cx cy; obtain rfl := k30_openM hM22; have cr : eF.cell? ⟨go22, (ac : Int).toNat * 2, none⟩ = some (.int .i64 ((rd_T30 ak ac).f0)) := hcc22 0 _ rfl; have ct : eF.cell? ⟨go22, (ac : Int).toNat * 2 + 1, none⟩ = some (.int .i64 ((rd_T30 ak ac).f1)) := hcc22 1 _ rfl; have hf22_0 : eF.frozen? ⟨go22, (ac : Int).toNat * 2, none⟩ = false := hfr22 0; have hf22_1 : eF.frozen? ⟨go22, (ac : Int).toNat * 2 + 1, none⟩ = false := hfr22 1; clear hcl22 hcc22 hfr22 hM22; replace cx := eq_true cx; replace cy := eq_true cy; have HX37 := Aside0.mk (show Kd.R k30 30 eF w.heap.size (fun k_ => some k_ ≠ (.slice (some au) ab.length aC : Value).ownBlock) (.slice (some ⟨go22, 0, none⟩) ak.length ap) ak from (Z1 aa)); obtain ⟨ce37, hcl37, hM37, hcc37, hfr37⟩ := Kd.R_elem HX37.out z30 (ac : Int) (of_decide_eq_true (Z4)) (Z9); obtain rfl := k30_openM hM37; have HP37 := Kd.R_seg HX37.out (ac : Int) (of_decide_eq_true (Z4)) (Z9) (seg := [.int .i64 ((rd_T30 ab ae).f0), .int .i64 ((rd_T30 ab ae).f1)]) (j := 0) hcl37 hcc37 (show 2 ≤ 2 from by decide) (x' := (⟨(rd_T30 ab ae).f0, (rd_T30 ab ae).f1⟩ : S30)) (k30_mkM _ _ _ (⟨(rd_T30 ab ae).f0, (rd_T30 ab ae).f1⟩ : S30) ) (fun _ hk => hk); have dE := hcc37 0 _ rfl; (try simp only [show (k30).sz = 2 from rfl, Nat.mul_one, Nat.add_zero] at dE); have hf37_0 := hfr37 0; (try simp only [show (k30).sz = 2 from rfl, Nat.mul_one, Nat.add_zero] at hf37_0); have dF := hcc37 1 _ rfl; (try simp only [show (k30).sz = 2 from rfl, Nat.mul_one, Nat.add_zero] at dF); have hf37_1 := hfr37 1; (try simp only [show (k30).sz = 2 from rfl, Nat.mul_one, Nat.add_zero] at hf37_1); clear hcl37 hcc37 hfr37 hM37) | ((with_reducible refine gate_store (t := 30) (p := 89) rfl ?_); refine store_event (t := 30) (p := 89) (v := ?vo_w38) (w1 := ((eF.setCell ⟨go22, (ac : Int).toNat * 2, none⟩ (.int .i64 ((rd_T30 ab ae).f0))).setCell ⟨go22, (ac : Int).toNat * 2 + 1, none⟩ (.int .i64 ((rd_T30 ab ae).f1)))) ?hg ?ho ?hn ?hr ?_; (case ho => rfl); (case hg => rfl); (case hn => rfl); (case hr => exact Z29); intro dz hw; have hg : eF.grownBy dz (some go22) := (by rw [hw]; exact HP37.2); have hp_ : Kd.R k30 30 dz w.heap.size (fun k_ => some k_ ≠ (.slice (some au) ab.length aC : Value).ownBlock) (.slice (some ⟨go22, 0, none⟩) ak.length ap) aV := (by rw [hw, dn.out]; exact HP37.1); clear HP37; refine k3_ (Kd.R_after (v := (.slice (some ⟨go22, 0, none⟩) ak.length ap)) (v1 := (.slice (some ⟨go22, 0, none⟩) ak.length ap)) (ok := (fun _ => True)) (Z1 af) hg (.inl rfl)) (hp_) ((Z40 : Below w.heap.size w dz)) ?_; clear af aa HB; intro af aa HB; clear hg hw hp_; have bj : 0 ≤ (ac : Int) := of_decide_eq_true (Z4); have bk : ac < (ab.length : Int) := of_decide_eq_true (Z4); obtain ⟨bF, e681, bQ, bR⟩ := at_T30 (Kd.R_reads' af.out).2.2 ac bj bk; obtain rfl : au = bF := (Z131); replace bj := eq_true bj; replace bk := eq_true bk; have cn : 0 ≤ (ae : Int) := of_decide_eq_true (Z4); have cp : (ae : Int) < ((ak.length : Int) : Int) := of_decide_eq_true (Z4); obtain ⟨ce25, hcl25, hM25, hcc25, hfr25⟩ := Kd.R_elem aa.out z30 (ae : Int) cn cp; obtain rfl := k30_openM hM25; have ca : dz.cell? ⟨go22, (ae : Int).toNat * 2, none⟩ = some (.int .i64 ((rd_T30 aV ae).f0)) := hcc25 0 _ rfl; have cb : dz.cell? ⟨go22, (ae : Int).toNat * 2 + 1, none⟩ = some (.int .i64 ((rd_T30 aV ae).f1)) := hcc25 1 _ rfl; have hf25_0 : dz.frozen? ⟨go22, (ae : Int).toNat * 2, none⟩ = false := hfr25 0; have hf25_1 : dz.frozen? ⟨go22, (ae : Int).toNat * 2 + 1, none⟩ = false := hfr25 1; clear hcl25 hcc25 hfr25 hM25; replace cn := eq_true cn; replace cp := eq_true cp; have HX39 := Aside0.mk (show Kd.R k30 30 dz w.heap.size (fun k_ => some k_ ≠ (.slice (some au) ab.length aC : Value).ownBlock) (.slice (some ⟨go22, 0, none⟩) ak.length ap) aV from (Z1 aa)); obtain ⟨ce39, hcl39, hM39, hcc39, hfr39⟩ := Kd.R_elem HX39.out z30 (ae : Int) (of_decide_eq_true (Z4)) (Z10); obtain rfl := k30_openM hM39; have HP39 := Kd.R_seg HX39.out (ae : Int) (of_decide_eq_true (Z4)) (Z10) (seg := [.int .i64 ((rd_T30 ab ac).f0), .int .i64 ((rd_T30 ab ac).f1)]) (j := 0) hcl39 hcc39 (show 2 ≤ 2 from by decide) (x' := (⟨(rd_T30 ab ac).f0, (rd_T30 ab ac).f1⟩ : S30)) (k30_mkM _ _ _ (⟨(rd_T30 ab ac).f0, (rd_T30 ab ac).f1⟩ : S30) ) (fun _ hk => hk); have dG := hcc39 0 _ rfl; (try simp only [show (k30).sz = 2 from rfl, Nat.mul_one, Nat.add_zero] at dG); have hf39_0 := hfr39 0; (try simp only [show (k30).sz = 2 from rfl, Nat.mul_one, Nat.add_zero] at hf39_0); have dH := hcc39 1 _ rfl; (try simp only [show (k30).sz = 2 from rfl, Nat.mul_one, Nat.add_zero] at dH); have hf39_1 := hfr39 1; (try simp only [show (k30).sz = 2 from rfl, Nat.mul_one, Nat.add_zero] at hf39_1); clear hcl39 hcc39 hfr39 hM39) | ((with_reducible refine gate_store (t := 30) (p := 96) rfl ?_); refine store_event (t := 30) (p := 96) (v := ?vo_w40) (w1 := ((dz.setCell ⟨go22, (ae : Int).toNat * 2, none⟩ (.int .i64 ((rd_T30 ab ac).f0))).setCell ⟨go22, (ae : Int).toNat * 2 + 1, none⟩ (.int .i64 ((rd_T30 ab ac).f1)))) ?hg ?ho ?hn ?hr ?_; (case ho => rfl); (case hg => rfl); (case hn => rfl); (case hr => exact Z29); intro rX hw; have hg : dz.grownBy rX (some go22) := (by rw [hw]; exact HP39.2); have hp_ : Kd.R k30 30 rX w.heap.size (fun k_ => some k_ ≠ (.slice (some au) ab.length aC : Value).ownBlock) (.slice (some ⟨go22, 0, none⟩) ak.length ap) aK := (by rw [hw, dp.out]; exact HP39.1); clear HP39; refine k3_ (Kd.R_after (v := (.slice (some ⟨go22, 0, none⟩) ak.length ap)) (v1 := (.slice (some ⟨go22, 0, none⟩) ak.length ap)) (ok := (fun _ => True)) (Z1 af) hg (.inl rfl)) (hp_) ((Z40 : Below w.heap.size w rX)) ?_; clear af aa HB; intro af aa HB; clear hg hw hp_) | (go_at_call 8; (with_reducible refine (impl_WayOfHead.calls cC _ _ ab aE en true _ ?_ ?_ m4.out).mono ?_); exact (Z5 af); exact (Kd.R_reads' af.out).2.1; rintro e vB ⟨rfl, hb⟩; refine k3_ (Ya_ af) (Ya_ aa) (below_step (Z2) hb) ?_; clear af aa HB; intro af aa HB; (try clear hb)) | (go_at_call 8; refine calls_of_args (args' := #[.slice (some ⟨go22, 0, none⟩) aK.length ap, .int .i64 aE]) (Z25) ?_; (with_reducible refine (impl_WayOfHead.calls cC _ _ aK aE ep true _ ?_ ?_ gS.out).mono ?_); exact (Z5 aa); exact Z21; rintro e Bt ⟨rfl, hb⟩; refine k3_ (Ya_ af) (Ya_ aa) (below_step (Z2) hb) ?_; clear af aa HB; intro af aa HB; (try clear hb)) | (go_at_call 6; refine calls_of_args (args' := #[.slice (some ⟨go22, 0, none⟩) aK.length ap, .int .i64 ac, .int .i64 ae, .int .i64 aE]) (Z25) ?_; (with_reducible refine (impl_SwapGain.calls cC _ _ aK ac ae aE eq true _ ?_ ?_ gW.out).mono ?_); exact (Z5 aa); exact Z21; rintro e AD ⟨rfl, hb⟩; refine k3_ (Ya_ af) (Ya_ aa) (below_step (Z2) hb) ?_; clear af aa HB; intro af aa HB; (try clear hb)))
                    repeat (go_quiet (fail); try go_wp2_with (fail))
                    (refine Met.intro ?_; go_step; (repeat (first | apply ex_32 | apply ex_8 | apply Exists.intro)); refine ⟨?rel, rfl⟩)
                    case rel => exact ⟨_, H', ⟨Z96 rA⟩, ⟨Z2⟩⟩
                  rw [if_neg c33] at H
                  have ra : (eq == (wrap64 (-em))) = false := beq_eq_false_iff_ne.mpr c33
                  have xp : (eq != (wrap64 (-em))) = true := bne_iff_ne.mpr c33
                  obtain rfl := Option.some.inj H
                  as_aux_lemma =>
                   go_wp2_with (first | ((with_reducible refine gate_dst (N := 80) rfl ?_); (try (refine gate_guard (by rfl) ?_; dsimp only)); refine Kd.R_lit k30 _ 30 ?hg (N := 80) ?hd (xs := ([] : List (S30))) (inner := []) (ok := fun _ => True) (okp := fun _ => True) ?hr ?hp (fun _ hk => hk) trivial (Below.refl _ _) (Nat.le_refl _) (by simp) ?_; (case hd => rfl); (case hg => rfl); (case hr => exact Z29); (case hp => exact (Reps.none _ _)); intro cD Bu ho45 hb hg_ hnew_; clear hg_ hnew_; (first | rw [← bB.out] at ho45 | (simp only [Int.reduceToNat] at ho45; rw [← bB.out] at ho45)); refine k3_ (Kd.R_elder' (Z1 af) (Kd.R_base ho45) hb) (Kd.R_lower (Kd.R_new' ho45 (Yd_ af)) (below_size (Z2))) (below_step (Z2) hb) ?_; clear af HB; intro af aZ HB; clear hb ho45) | ((with_reducible refine gate_builtin (b := .append) (xs := #[.tmp 80, .tmp 81]) rfl ?_); (try (refine gate_guard (by rfl) ?_; dsimp only)); at_builtin; refine Kd.R_append_rows k30 (w0 := w) w.heap.size rfl (.tmp 80) (.tmp 81) 24 30 (.agg #[(.int .i64 0), (.int .i64 0)]) 16 rfl Tryz.underlying24 info30 rfl (by decide) (by omega) cD dD ab _ _ _ (fun k_ => some k_ ≠ (.slice dy ab.length aC : Value).ownBlock) (fun _ => False) rfl rfl ?aO ?aR (fun _ _ h => h) (fun _ h => h.elim) ?aF ?aB ?aS ?aL ?_; (case aR => exact Z5 af); (case aB => exact Z2); (case aF => exact (fun k_ hk => Kd.fresh' (Yd_ af) k_ hk)); (case aO => exact (Z26 aZ)); (case aS => exact (below_size (Z2))); (case aL => exact Z76 dl); intro f4 e6 ho hb hg hat; rw [← dm.out] at ho; refine k3_ (Kd.R_after (ok := (fun _ => True)) (Z1 af) hg hat) (hb) (ho) ?_; clear af HB aZ; intro af HB aa; clear ho hb hg hat; have bh : 0 ≤ (ae : Int) := of_decide_eq_true (Z4); have bi : ae < (ab.length : Int) := of_decide_eq_true (Z4); obtain ⟨au, e679, bO, bP⟩ := at_T30 (Kd.R_reads' af.out).2.2 ae bh bi; cases e679; replace bh := eq_true bh; replace bi := eq_true bi; have cx : 0 ≤ (ac : Int) := of_decide_eq_true (Z4); have cy : (ac : Int) < ((ak.length : Int) : Int) := of_decide_eq_true (Z4); obtain ⟨go22, ap, bA, bE, gl22, cl22, HG22⟩ := Kd.R_form aa.out (by omega); (first | cases bA | (injection bA with ea_ en_ ec_; (first | subst ea_ | (injection ea_ with ea_; subst ea_)); subst ec_; clear en_)); have GB22 := Aside0.mk bE; have GG22 := Aside0.mk HG22; clear bE gl22 HG22; obtain ⟨ce22, hcl22, hM22, hcc22, hfr22⟩ := Kd.R_elem aa.out z30 (ac : Int) cx cy; obtain rfl := k30_openM hM22; have cr : e6.cell? ⟨go22, (ac : Int).toNat * 2, none⟩ = some (.int .i64 ((rd_T30 ak ac).f0)) := hcc22 0 _ rfl; have ct : e6.cell? ⟨go22, (ac : Int).toNat * 2 + 1, none⟩ = some (.int .i64 ((rd_T30 ak ac).f1)) := hcc22 1 _ rfl; have hf22_0 : e6.frozen? ⟨go22, (ac : Int).toNat * 2, none⟩ = false := hfr22 0; have hf22_1 : e6.frozen? ⟨go22, (ac : Int).toNat * 2 + 1, none⟩ = false := hfr22 1; clear hcl22 hcc22 hfr22 hM22; replace cx := eq_true cx; replace cy := eq_true cy; have HX47 := Aside0.mk (show Kd.R k30 30 e6 w.heap.size (fun k_ => some k_ ≠ (.slice (some au) ab.length aC : Value).ownBlock) (.slice (some ⟨go22, 0, none⟩) ak.length ap) ak from (Z1 aa)); obtain ⟨ce47, hcl47, hM47, hcc47, hfr47⟩ := Kd.R_elem HX47.out z30 (ac : Int) (of_decide_eq_true (Z4)) (Z9); obtain rfl := k30_openM hM47; have HP47 := Kd.R_seg HX47.out (ac : Int) (of_decide_eq_true (Z4)) (Z9) (seg := [.int .i64 ((rd_T30 ab ae).f0), .int .i64 ((rd_T30 ab ae).f1)]) (j := 0) hcl47 hcc47 (show 2 ≤ 2 from by decide) (x' := (⟨(rd_T30 ab ae).f0, (rd_T30 ab ae).f1⟩ : S30)) (k30_mkM _ _ _ (⟨(rd_T30 ab ae).f0, (rd_T30 ab ae).f1⟩ : S30) ) (fun _ hk => hk); have dI := hcc47 0 _ rfl; (try simp only [show (k30).sz = 2 from rfl, Nat.mul_one, Nat.add_zero] at dI); have hf47_0 := hfr47 0; (try simp only [show (k30).sz = 2 from rfl, Nat.mul_one, Nat.add_zero] at hf47_0); have dJ := hcc47 1 _ rfl; (try simp only [show (k30).sz = 2 from rfl, Nat.mul_one, Nat.add_zero] at dJ); have hf47_1 := hfr47 1; (try simp only [show (k30).sz = 2 from rfl, Nat.mul_one, Nat.add_zero] at hf47_1); clear hcl47 hcc47 hfr47 hM47) | ((with_reducible refine gate_store (t := 30) (p := 89) rfl ?_); refine store_event (t := 30) (p := 89) (v := ?vo_w48) (w1 := ((e6.setCell ⟨go22, (ac : Int).toNat * 2, none⟩ (.int .i64 ((rd_T30 ab ae).f0))).setCell ⟨go22, (ac : Int).toNat * 2 + 1, none⟩ (.int .i64 ((rd_T30 ab ae).f1)))) ?hg ?ho ?hn ?hr ?_; (case ho => rfl); (case hg => rfl); (case hn => rfl); (case hr => exact Z29); intro er hw; have hg : e6.grownBy er (some go22) := (by rw [hw]; exact HP47.2); have hp_ : Kd.R k30 30 er w.heap.size (fun k_ => some k_ ≠ (.slice (some au) ab.length aC : Value).ownBlock) (.slice (some ⟨go22, 0, none⟩) ak.length ap) aV := (by rw [hw, dn.out]; exact HP47.1); clear HP47; refine k3_ (Kd.R_after (v := (.slice (some ⟨go22, 0, none⟩) ak.length ap)) (v1 := (.slice (some ⟨go22, 0, none⟩) ak.length ap)) (ok := (fun _ => True)) (Z1 af) hg (.inl rfl)) (hp_) ((Z40 : Below w.heap.size w er)) ?_; clear af aa HB; intro af aa HB; clear hg hw hp_; have bj : 0 ≤ (ac : Int) := of_decide_eq_true (Z4); have bk : ac < (ab.length : Int) := of_decide_eq_true (Z4); obtain ⟨bF, e681, bQ, bR⟩ := at_T30 (Kd.R_reads' af.out).2.2 ac bj bk; obtain rfl : au = bF := (Z131); replace bj := eq_true bj; replace bk := eq_true bk; have cn : 0 ≤ (ae : Int) := of_decide_eq_true (Z4); have cp : (ae : Int) < ((ak.length : Int) : Int) := of_decide_eq_true (Z4); obtain ⟨ce25, hcl25, hM25, hcc25, hfr25⟩ := Kd.R_elem aa.out z30 (ae : Int) cn cp; obtain rfl := k30_openM hM25; have ca : er.cell? ⟨go22, (ae : Int).toNat * 2, none⟩ = some (.int .i64 ((rd_T30 aV ae).f0)) := hcc25 0 _ rfl; have cb : er.cell? ⟨go22, (ae : Int).toNat * 2 + 1, none⟩ = some (.int .i64 ((rd_T30 aV ae).f1)) := hcc25 1 _ rfl; have hf25_0 : er.frozen? ⟨go22, (ae : Int).toNat * 2, none⟩ = false := hfr25 0; have hf25_1 : er.frozen? ⟨go22, (ae : Int).toNat * 2 + 1, none⟩ = false := hfr25 1; clear hcl25 hcc25 hfr25 hM25; replace cn := eq_true cn; replace cp := eq_true cp; have HX49 := Aside0.mk (show Kd.R k30 30 er w.heap.size (fun k_ => some k_ ≠ (.slice (some au) ab.length aC : Value).ownBlock) (.slice (some ⟨go22, 0, none⟩) ak.length ap) aV from (Z1 aa)); obtain ⟨ce49, hcl49, hM49, hcc49, hfr49⟩ := Kd.R_elem HX49.out z30 (ae : Int) (of_decide_eq_true (Z4)) (Z10); obtain rfl := k30_openM hM49; have HP49 := Kd.R_seg HX49.out (ae : Int) (of_decide_eq_true (Z4)) (Z10) (seg := [.int .i64 ((rd_T30 ab ac).f0), .int .i64 ((rd_T30 ab ac).f1)]) (j := 0) hcl49 hcc49 (show 2 ≤ 2 from by decide) (x' := (⟨(rd_T30 ab ac).f0, (rd_T30 ab ac).f1⟩ : S30)) (k30_mkM _ _ _ (⟨(rd_T30 ab ac).f0, (rd_T30 ab ac).f1⟩ : S30) ) (fun _ hk => hk); have dK := hcc49 0 _ rfl; (try simp only [show (k30).sz = 2 from rfl, Nat.mul_one, Nat.add_zero] at dK); have hf49_0 := hfr49 0; (try simp only [show (k30).sz = 2 from rfl, Nat.mul_one, Nat.add_zero] at hf49_0); have dL := hcc49 1 _ rfl; (try simp only [show (k30).sz = 2 from rfl, Nat.mul_one, Nat.add_zero] at dL); have hf49_1 := hfr49 1; (try simp only [show (k30).sz = 2 from rfl, Nat.mul_one, Nat.add_zero] at hf49_1); clear hcl49 hcc49 hfr49 hM49) | ((with_reducible refine gate_store (t := 30) (p := 96) rfl ?_); refine store_event (t := 30) (p := 96) (v := ?vo_w50) (w1 := ((er.setCell ⟨go22, (ae : Int).toNat * 2, none⟩ (.int .i64 ((rd_T30 ab ac).f0))).setCell ⟨go22, (ae : Int).toNat * 2 + 1, none⟩ (.int .i64 ((rd_T30 ab ac).f1)))) ?hg ?ho ?hn ?hr ?_; (case ho => rfl); (case hg => rfl); (case hn => rfl); (case hr => exact Z29); intro jI hw; have hg : er.grownBy jI (some go22) := (by rw [hw]; exact HP49.2); have hp_ : Kd.R k30 30 jI w.heap.size (fun k_ => some k_ ≠ (.slice (some au) ab.length aC : Value).ownBlock) (.slice (some ⟨go22, 0, none⟩) ak.length ap) aK := (by rw [hw, dp.out]; exact HP49.1); clear HP49; refine k3_ (Kd.R_after (v := (.slice (some ⟨go22, 0, none⟩) ak.length ap)) (v1 := (.slice (some ⟨go22, 0, none⟩) ak.length ap)) (ok := (fun _ => True)) (Z1 af) hg (.inl rfl)) (hp_) ((Z40 : Below w.heap.size w jI)) ?_; clear af aa HB; intro af aa HB; clear hg hw hp_) | (go_at_call 8; (with_reducible refine (impl_WayOfHead.calls cC _ _ ab aE en true _ ?_ ?_ m4.out).mono ?_); exact (Z5 af); exact (Kd.R_reads' af.out).2.1; rintro e Bv ⟨rfl, hb⟩; refine k3_ (Ya_ af) (Ya_ aa) (below_step (Z2) hb) ?_; clear af aa HB; intro af aa HB; (try clear hb)) | (go_at_call 8; refine calls_of_args (args' := #[.slice (some ⟨go22, 0, none⟩) aK.length ap, .int .i64 aE]) (Z25) ?_; (with_reducible refine (impl_WayOfHead.calls cC _ _ aK aE ep true _ ?_ ?_ gS.out).mono ?_); exact (Z5 aa); exact Z21; rintro e rT ⟨rfl, hb⟩; refine k3_ (Ya_ af) (Ya_ aa) (below_step (Z2) hb) ?_; clear af aa HB; intro af aa HB; (try clear hb)) | (go_at_call 6; refine calls_of_args (args' := #[.slice (some ⟨go22, 0, none⟩) aK.length ap, .int .i64 ac, .int .i64 ae, .int .i64 aE]) (Z25) ?_; (with_reducible refine (impl_SwapGain.calls cC _ _ aK ac ae aE eq true _ ?_ ?_ gW.out).mono ?_); exact (Z5 aa); exact Z21; rintro e pr ⟨rfl, hb⟩; refine k3_ (Ya_ af) (Ya_ aa) (below_step (Z2) hb) ?_; clear af aa HB; intro af aa HB; (try clear hb)))
                   repeat (go_quiet (fail); try go_wp2_with (fail))
                   go_ret
                   exact ⟨Z12, Z2⟩
                 replace c32 := Bool.eq_false_iff.mpr c32
                 subst c32
                 rw [if_neg (show ¬ (false = true) by decide)] at H
                 obtain rfl := Option.some.inj H
                 as_aux_lemma =>
                  go_wp2_with (first | ((with_reducible refine gate_dst (N := 80) rfl ?_); (try (refine gate_guard (by rfl) ?_; dsimp only)); refine Kd.R_lit k30 _ 30 ?hg (N := 80) ?hd (xs := ([] : List (S30))) (inner := []) (ok := fun _ => True) (okp := fun _ => True) ?hr ?hp (fun _ hk => hk) trivial (Below.refl _ _) (Nat.le_refl _) (by simp) ?_; (case hd => rfl); (case hg => rfl); (case hr => exact Z29); (case hp => exact (Reps.none _ _)); intro cD sx ho55 hb hg_ hnew_; clear hg_ hnew_; (first | rw [← bB.out] at ho55 | (simp only [Int.reduceToNat] at ho55; rw [← bB.out] at ho55)); refine k3_ (Kd.R_elder' (Z1 af) (Kd.R_base ho55) hb) (Kd.R_lower (Kd.R_new' ho55 (Yd_ af)) (below_size (Z2))) (below_step (Z2) hb) ?_; clear af HB; intro af aZ HB; clear hb ho55) | ((with_reducible refine gate_builtin (b := .append) (xs := #[.tmp 80, .tmp 81]) rfl ?_); (try (refine gate_guard (by rfl) ?_; dsimp only)); at_builtin; refine Kd.R_append_rows k30 (w0 := w) w.heap.size rfl (.tmp 80) (.tmp 81) 24 30 (.agg #[(.int .i64 0), (.int .i64 0)]) 16 rfl Tryz.underlying24 info30 rfl (by decide) (by omega) cD dD ab _ _ _ (fun k_ => some k_ ≠ (.slice dy ab.length aC : Value).ownBlock) (fun _ => False) rfl rfl ?aO ?aR (fun _ _ h => h) (fun _ h => h.elim) ?aF ?aB ?aS ?aL ?_; (case aR => exact Z5 af); (case aB => exact Z2); (case aF => exact (fun k_ hk => Kd.fresh' (Yd_ af) k_ hk)); (case aO => exact (Z26 aZ)); (case aS => exact (below_size (Z2))); (case aL => exact Z76 dl); intro f4 eY ho hb hg hat; rw [← dm.out] at ho; refine k3_ (Kd.R_after (ok := (fun _ => True)) (Z1 af) hg hat) (hb) (ho) ?_; clear af HB aZ; intro af HB aa; clear ho hb hg hat; have bh : 0 ≤ (ae : Int) := of_decide_eq_true (Z4); have bi : ae < (ab.length : Int) := of_decide_eq_true (Z4); obtain ⟨au, e679, bO, bP⟩ := at_T30 (Kd.R_reads' af.out).2.2 ae bh bi; cases e679; replace bh := eq_true bh; replace bi := eq_true bi; have cx : 0 ≤ (ac : Int) := of_decide_eq_true (Z4); have cy : (ac : Int) < ((ak.length : Int) : Int) := of_decide_eq_true (Z4); obtain ⟨go22, ap, bA, bE, gl22, cl22, HG22⟩ := Kd.R_form aa.out (by omega); (first | cases bA | (injection bA with ea_ en_ ec_; (first | subst ea_ | (injection ea_ with ea_; subst ea_)); subst ec_; clear en_)); have GB22 := Aside0.mk bE; have GG22 := Aside0.mk HG22; clear bE gl22 HG22; obtain ⟨ce22, hcl22, hM22, hcc22, hfr22⟩ := Kd.R_elem aa.out z30 (ac : Int) cx cy; obtain rfl := k30_openM hM22; have cr : eY.cell? ⟨go22, (ac : Int).toNat * 2, none⟩ = some (.int .i64 ((rd_T30 ak ac).f0)) := hcc22 0 _ rfl; have ct : eY.cell? ⟨go22, (ac : Int).toNat * 2 + 1, none⟩ = some (.int .i64 ((rd_T30 ak ac).f1)) := hcc22 1 _ rfl; have hf22_0 : eY.frozen? ⟨go22, (ac : Int).toNat * 2, none⟩ = false := hfr22 0; have hf22_1 : eY.frozen? ⟨go22, (ac : Int).toNat * 2 + 1, none⟩ = false := hfr22 1; clear hcl22 hcc22 hfr22 hM22; replace cx := eq_true cx; replace cy := eq_true cy; have HX57 := Aside0.mk (show Kd.R k30 30 eY w.heap.size (fun k_ => some k_ ≠ (.slice (some au) ab.length aC : Value).ownBlock) (.slice (some ⟨go22, 0, none⟩) ak.length ap) ak from (Z1 aa)); obtain ⟨ce57, hcl57, hM57, hcc57, hfr57⟩ := Kd.R_elem HX57.out z30 (ac : Int) (of_decide_eq_true (Z4)) (Z9); obtain rfl := k30_openM hM57; have HP57 := Kd.R_seg HX57.out (ac : Int) (of_decide_eq_true (Z4)) (Z9) (seg := [.int .i64 ((rd_T30 ab ae).f0), .int .i64 ((rd_T30 ab ae).f1)]) (j := 0) hcl57 hcc57 (show 2 ≤ 2 from by decide) (x' := (⟨(rd_T30 ab ae).f0, (rd_T30 ab ae).f1⟩ : S30)) (k30_mkM _ _ _ (⟨(rd_T30 ab ae).f0, (rd_T30 ab ae).f1⟩ : S30) ) (fun _ hk => hk); have dM := hcc57 0 _ rfl; (try simp only [show (k30).sz = 2 from rfl, Nat.mul_one, Nat.add_zero] at dM); have hf57_0 := hfr57 0; (try simp only [show (k30).sz = 2 from rfl, Nat.mul_one, Nat.add_zero] at hf57_0); have dN := hcc57 1 _ rfl; (try simp only [show (k30).sz = 2 from rfl, Nat.mul_one, Nat.add_zero] at dN); have hf57_1 := hfr57 1; (try simp only [show (k30).sz = 2 from rfl, Nat.mul_one, Nat.add_zero] at hf57_1); clear hcl57 hcc57 hfr57 hM57) | ((with_reducible refine gate_store (t := 30) (p := 89) rfl ?_); refine store_event (t := 30) (p := 89) (v := ?vo_w58) (w1 := ((eY.setCell ⟨go22, (ac : Int).toNat * 2, none⟩ (.int .i64 ((rd_T30 ab ae).f0))).setCell ⟨go22, (ac : Int).toNat * 2 + 1, none⟩ (.int .i64 ((rd_T30 ab ae).f1)))) ?hg ?ho ?hn ?hr ?_; (case ho => rfl); (case hg => rfl); (case hn => rfl); (case hr => exact Z29); intro el hw; have hg : eY.grownBy el (some go22) := (by rw [hw]; exact HP57.2); have hp_ : Kd.R k30 30 el w.heap.size (fun k_ => some k_ ≠ (.slice (some au) ab.length aC : Value).ownBlock) (.slice (some ⟨go22, 0, none⟩) ak.length ap) aV := (by rw [hw, dn.out]; exact HP57.1); clear HP57; refine k3_ (Kd.R_after (v := (.slice (some ⟨go22, 0, none⟩) ak.length ap)) (v1 := (.slice (some ⟨go22, 0, none⟩) ak.length ap)) (ok := (fun _ => True)) (Z1 af) hg (.inl rfl)) (hp_) ((Z40 : Below w.heap.size w el)) ?_; clear af aa HB; intro af aa HB; clear hg hw hp_; have bj : 0 ≤ (ac : Int) := of_decide_eq_true (Z4); have bk : ac < (ab.length : Int) := of_decide_eq_true (Z4); obtain ⟨bF, e681, bQ, bR⟩ := at_T30 (Kd.R_reads' af.out).2.2 ac bj bk; obtain rfl : au = bF := (Z131); replace bj := eq_true bj; replace bk := eq_true bk; have cn : 0 ≤ (ae : Int) := of_decide_eq_true (Z4); have cp : (ae : Int) < ((ak.length : Int) : Int) := of_decide_eq_true (Z4); obtain ⟨ce25, hcl25, hM25, hcc25, hfr25⟩ := Kd.R_elem aa.out z30 (ae : Int) cn cp; obtain rfl := k30_openM hM25; have ca : el.cell? ⟨go22, (ae : Int).toNat * 2, none⟩ = some (.int .i64 ((rd_T30 aV ae).f0)) := hcc25 0 _ rfl; have cb : el.cell? ⟨go22, (ae : Int).toNat * 2 + 1, none⟩ = some (.int .i64 ((rd_T30 aV ae).f1)) := hcc25 1 _ rfl; have hf25_0 : el.frozen? ⟨go22, (ae : Int).toNat * 2, none⟩ = false := hfr25 0; have hf25_1 : el.frozen? ⟨go22, (ae : Int).toNat * 2 + 1, none⟩ = false := hfr25 1; clear hcl25 hcc25 hfr25 hM25; replace cn := eq_true cn; replace cp := eq_true cp; have HX59 := Aside0.mk (show Kd.R k30 30 el w.heap.size (fun k_ => some k_ ≠ (.slice (some au) ab.length aC : Value).ownBlock) (.slice (some ⟨go22, 0, none⟩) ak.length ap) aV from (Z1 aa)); obtain ⟨ce59, hcl59, hM59, hcc59, hfr59⟩ := Kd.R_elem HX59.out z30 (ae : Int) (of_decide_eq_true (Z4)) (Z10); obtain rfl := k30_openM hM59; have HP59 := Kd.R_seg HX59.out (ae : Int) (of_decide_eq_true (Z4)) (Z10) (seg := [.int .i64 ((rd_T30 ab ac).f0), .int .i64 ((rd_T30 ab ac).f1)]) (j := 0) hcl59 hcc59 (show 2 ≤ 2 from by decide) (x' := (⟨(rd_T30 ab ac).f0, (rd_T30 ab ac).f1⟩ : S30)) (k30_mkM _ _ _ (⟨(rd_T30 ab ac).f0, (rd_T30 ab ac).f1⟩ : S30) ) (fun _ hk => hk); have dO := hcc59 0 _ rfl; (try simp only [show (k30).sz = 2 from rfl, Nat.mul_one, Nat.add_zero] at dO); have hf59_0 := hfr59 0; (try simp only [show (k30).sz = 2 from rfl, Nat.mul_one, Nat.add_zero] at hf59_0); have dP := hcc59 1 _ rfl; (try simp only [show (k30).sz = 2 from rfl, Nat.mul_one, Nat.add_zero] at dP); have hf59_1 := hfr59 1; (try simp only [show (k30).sz = 2 from rfl, Nat.mul_one, Nat.add_zero] at hf59_1); clear hcl59 hcc59 hfr59 hM59) | ((with_reducible refine gate_store (t := 30) (p := 96) rfl ?_); refine store_event (t := 30) (p := 96) (v := ?vo_w60) (w1 := ((el.setCell ⟨go22, (ae : Int).toNat * 2, none⟩ (.int .i64 ((rd_T30 ab ac).f0))).setCell ⟨go22, (ae : Int).toNat * 2 + 1, none⟩ (.int .i64 ((rd_T30 ab ac).f1)))) ?hg ?ho ?hn ?hr ?_; (case ho => rfl); (case hg => rfl); (case hn => rfl); (case hr => exact Z29); intro pt hw; have hg : el.grownBy pt (some go22) := (by rw [hw]; exact HP59.2); have hp_ : Kd.R k30 30 pt w.heap.size (fun k_ => some k_ ≠ (.slice (some au) ab.length aC : Value).ownBlock) (.slice (some ⟨go22, 0, none⟩) ak.length ap) aK := (by rw [hw, dp.out]; exact HP59.1); clear HP59; refine k3_ (Kd.R_after (v := (.slice (some ⟨go22, 0, none⟩) ak.length ap)) (v1 := (.slice (some ⟨go22, 0, none⟩) ak.length ap)) (ok := (fun _ => True)) (Z1 af) hg (.inl rfl)) (hp_) ((Z40 : Below w.heap.size w pt)) ?_; clear af aa HB; intro af aa HB; clear hg hw hp_) | (go_at_call 8; (with_reducible refine (impl_WayOfHead.calls cC _ _ ab aE en true _ ?_ ?_ m4.out).mono ?_); exact (Z5 af); exact (Kd.R_reads' af.out).2.1; rintro e Dg ⟨rfl, hb⟩; refine k3_ (Ya_ af) (Ya_ aa) (below_step (Z2) hb) ?_; clear af aa HB; intro af aa HB; (try clear hb)) | (go_at_call 8; refine calls_of_args (args' := #[.slice (some ⟨go22, 0, none⟩) aK.length ap, .int .i64 aE]) (Z25) ?_; (with_reducible refine (impl_WayOfHead.calls cC _ _ aK aE ep true _ ?_ ?_ gS.out).mono ?_); exact (Z5 aa); exact Z21; rintro e DB ⟨rfl, hb⟩; refine k3_ (Ya_ af) (Ya_ aa) (below_step (Z2) hb) ?_; clear af aa HB; intro af aa HB; (try clear hb)) | (go_at_call 6; refine calls_of_args (args' := #[.slice (some ⟨go22, 0, none⟩) aK.length ap, .int .i64 ac, .int .i64 ae, .int .i64 aE]) (Z25) ?_; (with_reducible refine (impl_SwapGain.calls cC _ _ aK ac ae aE eq false _ ?_ ?_ gW.out).mono ?_); exact (Z5 aa); exact Z21; rintro e DV ⟨rfl, hb⟩; refine k3_ (Ya_ af) (Ya_ aa) (below_step (Z2) hb) ?_; clear af aa HB; intro af aa HB; (try clear hb)))
                  repeat (go_quiet (fail); try go_wp2_with (fail))
                  go_ret
                  exact ⟨Z12, Z2⟩
                rw [if_neg c31] at H
                have tL : ((wrap64 (en - ep)) == em) = false := beq_eq_false_iff_ne.mpr c31
                have xo : ((wrap64 (en - ep)) != em) = true := bne_iff_ne.mpr c31
                obtain rfl := Option.some.inj H
                as_aux_lemma =>
                 go_wp2_with (first | ((with_reducible refine gate_dst (N := 80) rfl ?_); (try (refine gate_guard (by rfl) ?_; dsimp only)); refine Kd.R_lit k30 _ 30 ?hg (N := 80) ?hd (xs := ([] : List (S30))) (inner := []) (ok := fun _ => True) (okp := fun _ => True) ?hr ?hp (fun _ hk => hk) trivial (Below.refl _ _) (Nat.le_refl _) (by simp) ?_; (case hd => rfl); (case hg => rfl); (case hr => exact Z29); (case hp => exact (Reps.none _ _)); intro cD DW ho65 hb hg_ hnew_; clear hg_ hnew_; (first | rw [← bB.out] at ho65 | (simp only [Int.reduceToNat] at ho65; rw [← bB.out] at ho65)); refine k3_ (Kd.R_elder' (Z1 af) (Kd.R_base ho65) hb) (Kd.R_lower (Kd.R_new' ho65 (Yd_ af)) (below_size (Z2))) (below_step (Z2) hb) ?_; clear af HB; intro af aZ HB; clear hb ho65) | ((with_reducible refine gate_builtin (b := .append) (xs := #[.tmp 80, .tmp 81]) rfl ?_); (try (refine gate_guard (by rfl) ?_; dsimp only)); at_builtin; refine Kd.R_append_rows k30 (w0 := w) w.heap.size rfl (.tmp 80) (.tmp 81) 24 30 (.agg #[(.int .i64 0), (.int .i64 0)]) 16 rfl Tryz.underlying24 info30 rfl (by decide) (by omega) cD dD ab _ _ _ (fun k_ => some k_ ≠ (.slice dy ab.length aC : Value).ownBlock) (fun _ => False) rfl rfl ?aO ?aR (fun _ _ h => h) (fun _ h => h.elim) ?aF ?aB ?aS ?aL ?_; (case aR => exact Z5 af); (case aB => exact Z2); (case aF => exact (fun k_ hk => Kd.fresh' (Yd_ af) k_ hk)); (case aO => exact (Z26 aZ)); (case aS => exact (below_size (Z2))); (case aL => exact Z76 dl); intro f4 fT ho hb hg hat; rw [← dm.out] at ho; refine k3_ (Kd.R_after (ok := (fun _ => True)) (Z1 af) hg hat) (hb) (ho) ?_; clear af HB aZ; intro af HB aa; clear ho hb hg hat; have bh : 0 ≤ (ae : Int) := of_decide_eq_true (Z4); have bi : ae < (ab.length : Int) := of_decide_eq_true (Z4); obtain ⟨au, e679, bO, bP⟩ := at_T30 (Kd.R_reads' af.out).2.2 ae bh bi; cases e679; replace bh := eq_true bh; replace bi := eq_true bi; have cx : 0 ≤ (ac : Int) := of_decide_eq_true (Z4); have cy : (ac : Int) < ((ak.length : Int) : Int) := of_decide_eq_true (Z4); obtain ⟨go22, ap, bA, bE, gl22, cl22, HG22⟩ := Kd.R_form aa.out (by omega); (first | cases bA | (injection bA with ea_ en_ ec_; (first | subst ea_ | (injection ea_ with ea_; subst ea_)); subst ec_; clear en_)); have GB22 := Aside0.mk bE; have GG22 := Aside0.mk HG22; clear bE gl22 HG22; obtain ⟨ce22, hcl22, hM22, hcc22, hfr22⟩ := Kd.R_elem aa.out z30 (ac : Int) cx cy; obtain rfl := k30_openM hM22; have cr : fT.cell? ⟨go22, (ac : Int).toNat * 2, none⟩ = some (.int .i64 ((rd_T30 ak ac).f0)) := hcc22 0 _ rfl; have ct : fT.cell? ⟨go22, (ac : Int).toNat * 2 + 1, none⟩ = some (.int .i64 ((rd_T30 ak ac).f1)) := hcc22 1 _ rfl; have hf22_0 : fT.frozen? ⟨go22, (ac : Int).toNat * 2, none⟩ = false := hfr22 0; have hf22_1 : fT.frozen? ⟨go22, (ac : Int).toNat * 2 + 1, none⟩ = false := hfr22 1; clear hcl22 hcc22 hfr22 hM22; replace cx := eq_true cx; replace cy := eq_true cy; have HX67 := Aside0.mk (show Kd.R k30 30 fT w.heap.size (fun k_ => some k_ ≠ (.slice (some au) ab.length aC : Value).ownBlock) (.slice (some ⟨go22, 0, none⟩) ak.length ap) ak from (Z1 aa)); obtain ⟨ce67, hcl67, hM67, hcc67, hfr67⟩ := Kd.R_elem HX67.out z30 (ac : Int) (of_decide_eq_true (Z4)) (Z9); obtain rfl := k30_openM hM67; have HP67 := Kd.R_seg HX67.out (ac : Int) (of_decide_eq_true (Z4)) (Z9) (seg := [.int .i64 ((rd_T30 ab ae).f0), .int .i64 ((rd_T30 ab ae).f1)]) (j := 0) hcl67 hcc67 (show 2 ≤ 2 from by decide) (x' := (⟨(rd_T30 ab ae).f0, (rd_T30 ab ae).f1⟩ : S30)) (k30_mkM _ _ _ (⟨(rd_T30 ab ae).f0, (rd_T30 ab ae).f1⟩ : S30) ) (fun _ hk => hk); have dQ := hcc67 0 _ rfl; (try simp only [show (k30).sz = 2 from rfl, Nat.mul_one, Nat.add_zero] at dQ); have hf67_0 := hfr67 0; (try simp only [show (k30).sz = 2 from rfl, Nat.mul_one, Nat.add_zero] at hf67_0); have dR := hcc67 1 _ rfl; (try simp only [show (k30).sz = 2 from rfl, Nat.mul_one, Nat.add_zero] at dR); have hf67_1 := hfr67 1; (try simp only [show (k30).sz = 2 from rfl, Nat.mul_one, Nat.add_zero] at hf67_1); clear hcl67 hcc67 hfr67 hM67) | ((with_reducible refine gate_store (t := 30) (p := 89) rfl ?_); refine store_event (t := 30) (p := 89) (v := ?vo_w68) (w1 := ((fT.setCell ⟨go22, (ac : Int).toNat * 2, none⟩ (.int .i64 ((rd_T30 ab ae).f0))).setCell ⟨go22, (ac : Int).toNat * 2 + 1, none⟩ (.int .i64 ((rd_T30 ab ae).f1)))) ?hg ?ho ?hn ?hr ?_; (case ho => rfl); (case hg => rfl); (case hn => rfl); (case hr => exact Z29); intro ev hw; have hg : fT.grownBy ev (some go22) := (by rw [hw]; exact HP67.2); have hp_ : Kd.R k30 30 ev w.heap.size (fun k_ => some k_ ≠ (.slice (some au) ab.length aC : Value).ownBlock) (.slice (some ⟨go22, 0, none⟩) ak.length ap) aV := (by rw [hw, dn.out]; exact HP67.1); clear HP67; refine k3_ (Kd.R_after (v := (.slice (some ⟨go22, 0, none⟩) ak.length ap)) (v1 := (.slice (some ⟨go22, 0, none⟩) ak.length ap)) (ok := (fun _ => True)) (Z1 af) hg (.inl rfl)) (hp_) ((Z40 : Below w.heap.size w ev)) ?_; clear af aa HB; intro af aa HB; clear hg hw hp_; have bj : 0 ≤ (ac : Int) := of_decide_eq_true (Z4); have bk : ac < (ab.length : Int) := of_decide_eq_true (Z4); obtain ⟨bF, e681, bQ, bR⟩ := at_T30 (Kd.R_reads' af.out).2.2 ac bj bk; obtain rfl : au = bF := (Z131); replace bj := eq_true bj; replace bk := eq_true bk; have cn : 0 ≤ (ae : Int) := of_decide_eq_true (Z4); have cp : (ae : Int) < ((ak.length : Int) : Int) := of_decide_eq_true (Z4); obtain ⟨ce25, hcl25, hM25, hcc25, hfr25⟩ := Kd.R_elem aa.out z30 (ae : Int) cn cp; obtain rfl := k30_openM hM25; have ca : ev.cell? ⟨go22, (ae : Int).toNat * 2, none⟩ = some (.int .i64 ((rd_T30 aV ae).f0)) := hcc25 0 _ rfl; have cb : ev.cell? ⟨go22, (ae : Int).toNat * 2 + 1, none⟩ = some (.int .i64 ((rd_T30 aV ae).f1)) := hcc25 1 _ rfl; have hf25_0 : ev.frozen? ⟨go22, (ae : Int).toNat * 2, none⟩ = false := hfr25 0; have hf25_1 : ev.frozen? ⟨go22, (ae : Int).toNat * 2 + 1, none⟩ = false := hfr25 1; clear hcl25 hcc25 hfr25 hM25; replace cn := eq_true cn; replace cp := eq_true cp; have HX69 := Aside0.mk (show Kd.R k30 30 ev w.heap.size (fun k_ => some k_ ≠ (.slice (some au) ab.length aC : Value).ownBlock) (.slice (some ⟨go22, 0, none⟩) ak.length ap) aV from (Z1 aa)); obtain ⟨ce69, hcl69, hM69, hcc69, hfr69⟩ := Kd.R_elem HX69.out z30 (ae : Int) (of_decide_eq_true (Z4)) (Z10); obtain rfl := k30_openM hM69; have HP69 := Kd.R_seg HX69.out (ae : Int) (of_decide_eq_true (Z4)) (Z10) (seg := [.int .i64 ((rd_T30 ab ac).f0), .int .i64 ((rd_T30 ab ac).f1)]) (j := 0) hcl69 hcc69 (show 2 ≤ 2 from by decide) (x' := (⟨(rd_T30 ab ac).f0, (rd_T30 ab ac).f1⟩ : S30)) (k30_mkM _ _ _ (⟨(rd_T30 ab ac).f0, (rd_T30 ab ac).f1⟩ : S30) ) (fun _ hk => hk); have dS := hcc69 0 _ rfl; (try simp only [show (k30).sz = 2 from rfl, Nat.mul_one, Nat.add_zero] at dS); have hf69_0 := hfr69 0; (try simp only [show (k30).sz = 2 from rfl, Nat.mul_one, Nat.add_zero] at hf69_0); have dT := hcc69 1 _ rfl; (try simp only [show (k30).sz = 2 from rfl, Nat.mul_one, Nat.add_zero] at dT); have hf69_1 := hfr69 1; (try simp only [show (k30).sz = 2 from rfl, Nat.mul_one, Nat.add_zero] at hf69_1); clear hcl69 hcc69 hfr69 hM69) | ((with_reducible refine gate_store (t := 30) (p := 96) rfl ?_); refine store_event (t := 30) (p := 96) (v := ?vo_w70) (w1 := ((ev.setCell ⟨go22, (ae : Int).toNat * 2, none⟩ (.int .i64 ((rd_T30 ab ac).f0))).setCell ⟨go22, (ae : Int).toNat * 2 + 1, none⟩ (.int .i64 ((rd_T30 ab ac).f1)))) ?hg ?ho ?hn ?hr ?_; (case ho => rfl); (case hg => rfl); (case hn => rfl); (case hr => exact Z29); intro sy hw; have hg : ev.grownBy sy (some go22) := (by rw [hw]; exact HP69.2); have hp_ : Kd.R k30 30 sy w.heap.size (fun k_ => some k_ ≠ (.slice (some au) ab.length aC : Value).ownBlock) (.slice (some ⟨go22, 0, none⟩) ak.length ap) aK := (by rw [hw, dp.out]; exact HP69.1); clear HP69; refine k3_ (Kd.R_after (v := (.slice (some ⟨go22, 0, none⟩) ak.length ap)) (v1 := (.slice (some ⟨go22, 0, none⟩) ak.length ap)) (ok := (fun _ => True)) (Z1 af) hg (.inl rfl)) (hp_) ((Z40 : Below w.heap.size w sy)) ?_; clear af aa HB; intro af aa HB; clear hg hw hp_) | (go_at_call 8; (with_reducible refine (impl_WayOfHead.calls cC _ _ ab aE en true _ ?_ ?_ m4.out).mono ?_); exact (Z5 af); exact (Kd.R_reads' af.out).2.1; rintro e DX ⟨rfl, hb⟩; refine k3_ (Ya_ af) (Ya_ aa) (below_step (Z2) hb) ?_; clear af aa HB; intro af aa HB; (try clear hb)) | (go_at_call 8; refine calls_of_args (args' := #[.slice (some ⟨go22, 0, none⟩) aK.length ap, .int .i64 aE]) (Z25) ?_; (with_reducible refine (impl_WayOfHead.calls cC _ _ aK aE ep true _ ?_ ?_ gS.out).mono ?_); exact (Z5 aa); exact Z21; rintro e DY ⟨rfl, hb⟩; refine k3_ (Ya_ af) (Ya_ aa) (below_step (Z2) hb) ?_; clear af aa HB; intro af aa HB; (try clear hb)) | (go_at_call 6; refine calls_of_args (args' := #[.slice (some ⟨go22, 0, none⟩) aK.length ap, .int .i64 ac, .int .i64 ae, .int .i64 aE]) (Z25) ?_; (with_reducible refine (impl_SwapGain.calls cC _ _ aK ac ae aE eq lG _ ?_ ?_ gW.out).mono ?_); exact (Z5 aa); exact Z21; rintro e DZ ⟨rfl, hb⟩; refine k3_ (Ya_ af) (Ya_ aa) (below_step (Z2) hb) ?_; clear af aa HB; intro af aa HB; (try clear hb)))
                 repeat (go_quiet (fail); try go_wp2_with (fail))
                 go_ret
                 exact ⟨Z12, Z2⟩
               replace c30 := Bool.eq_false_iff.mpr c30
               subst c30
               rw [if_neg (show ¬ (false = true) by decide)] at H
               obtain rfl := Option.some.inj H
               as_aux_lemma =>
                go_wp2_with (first | ((with_reducible refine gate_dst (N := 80) rfl ?_); (try (refine gate_guard (by rfl) ?_; dsimp only)); refine Kd.R_lit k30 _ 30 ?hg (N := 80) ?hd (xs := ([] : List (S30))) (inner := []) (ok := fun _ => True) (okp := fun _ => True) ?hr ?hp (fun _ hk => hk) trivial (Below.refl _ _) (Nat.le_refl _) (by simp) ?_; (case hd => rfl); (case hg => rfl); (case hr => exact Z29); (case hp => exact (Reps.none _ _)); intro cD D0 ho75 hb hg_ hnew_; clear hg_ hnew_; (first | rw [← bB.out] at ho75 | (simp only [Int.reduceToNat] at ho75; rw [← bB.out] at ho75)); refine k3_ (Kd.R_elder' (Z1 af) (Kd.R_base ho75) hb) (Kd.R_lower (Kd.R_new' ho75 (Yd_ af)) (below_size (Z2))) (below_step (Z2) hb) ?_; clear af HB; intro af aZ HB; clear hb ho75) | ((with_reducible refine gate_builtin (b := .append) (xs := #[.tmp 80, .tmp 81]) rfl ?_); (try (refine gate_guard (by rfl) ?_; dsimp only)); at_builtin; refine Kd.R_append_rows k30 (w0 := w) w.heap.size rfl (.tmp 80) (.tmp 81) 24 30 (.agg #[(.int .i64 0), (.int .i64 0)]) 16 rfl Tryz.underlying24 info30 rfl (by decide) (by omega) cD dD ab _ _ _ (fun k_ => some k_ ≠ (.slice dy ab.length aC : Value).ownBlock) (fun _ => False) rfl rfl ?aO ?aR (fun _ _ h => h) (fun _ h => h.elim) ?aF ?aB ?aS ?aL ?_; (case aR => exact Z5 af); (case aB => exact Z2); (case aF => exact (fun k_ hk => Kd.fresh' (Yd_ af) k_ hk)); (case aO => exact (Z26 aZ)); (case aS => exact (below_size (Z2))); (case aL => exact Z76 dl); intro f4 f5 ho hb hg hat; rw [← dm.out] at ho; refine k3_ (Kd.R_after (ok := (fun _ => True)) (Z1 af) hg hat) (hb) (ho) ?_; clear af HB aZ; intro af HB aa; clear ho hb hg hat; have bh : 0 ≤ (ae : Int) := of_decide_eq_true (Z4); have bi : ae < (ab.length : Int) := of_decide_eq_true (Z4); obtain ⟨au, e679, bO, bP⟩ := at_T30 (Kd.R_reads' af.out).2.2 ae bh bi; cases e679; replace bh := eq_true bh; replace bi := eq_true bi; have cx : 0 ≤ (ac : Int) := of_decide_eq_true (Z4); have cy : (ac : Int) < ((ak.length : Int) : Int) := of_decide_eq_true (Z4); obtain ⟨go22, ap, bA, bE, gl22, cl22, HG22⟩ := Kd.R_form aa.out (by omega); (first | cases bA | (injection bA with ea_ en_ ec_; (first | subst ea_ | (injection ea_ with ea_; subst ea_)); subst ec_; clear en_)); have GB22 := Aside0.mk bE; have GG22 := Aside0.mk HG22; clear bE gl22 HG22; obtain ⟨ce22, hcl22, hM22, hcc22, hfr22⟩ := Kd.R_elem aa.out z30 (ac : Int) cx cy; obtain rfl := k30_openM hM22; have cr : f5.cell? ⟨go22, (ac : Int).toNat * 2, none⟩ = some (.int .i64 ((rd_T30 ak ac).f0)) := hcc22 0 _ rfl; have ct : f5.cell? ⟨go22, (ac : Int).toNat * 2 + 1, none⟩ = some (.int .i64 ((rd_T30 ak ac).f1)) := hcc22 1 _ rfl; have hf22_0 : f5.frozen? ⟨go22, (ac : Int).toNat * 2, none⟩ = false := hfr22 0; have hf22_1 : f5.frozen? ⟨go22, (ac : Int).toNat * 2 + 1, none⟩ = false := hfr22 1; clear hcl22 hcc22 hfr22 hM22; replace cx := eq_true cx; replace cy := eq_true cy; have HX77 := Aside0.mk (show Kd.R k30 30 f5 w.heap.size (fun k_ => some k_ ≠ (.slice (some au) ab.length aC : Value).ownBlock) (.slice (some ⟨go22, 0, none⟩) ak.length ap) ak from (Z1 aa)); obtain ⟨ce77, hcl77, hM77, hcc77, hfr77⟩ := Kd.R_elem HX77.out z30 (ac : Int) (of_decide_eq_true (Z4)) (Z9); obtain rfl := k30_openM hM77; have HP77 := Kd.R_seg HX77.out (ac : Int) (of_decide_eq_true (Z4)) (Z9) (seg := [.int .i64 ((rd_T30 ab ae).f0), .int .i64 ((rd_T30 ab ae).f1)]) (j := 0) hcl77 hcc77 (show 2 ≤ 2 from by decide) (x' := (⟨(rd_T30 ab ae).f0, (rd_T30 ab ae).f1⟩ : S30)) (k30_mkM _ _ _ (⟨(rd_T30 ab ae).f0, (rd_T30 ab ae).f1⟩ : S30) ) (fun _ hk => hk); have dU := hcc77 0 _ rfl; (try simp only [show (k30).sz = 2 from rfl, Nat.mul_one, Nat.add_zero] at dU); have hf77_0 := hfr77 0; (try simp only [show (k30).sz = 2 from rfl, Nat.mul_one, Nat.add_zero] at hf77_0); have dV := hcc77 1 _ rfl; (try simp only [show (k30).sz = 2 from rfl, Nat.mul_one, Nat.add_zero] at dV); have hf77_1 := hfr77 1; (try simp only [show (k30).sz = 2 from rfl, Nat.mul_one, Nat.add_zero] at hf77_1); clear hcl77 hcc77 hfr77 hM77) | ((with_reducible refine gate_store (t := 30) (p := 89) rfl ?_); refine store_event (t := 30) (p := 89) (v := ?vo_w78) (w1 := ((f5.setCell ⟨go22, (ac : Int).toNat * 2, none⟩ (.int .i64 ((rd_T30 ab ae).f0))).setCell ⟨go22, (ac : Int).toNat * 2 + 1, none⟩ (.int .i64 ((rd_T30 ab ae).f1)))) ?hg ?ho ?hn ?hr ?_; (case ho => rfl); (case hg => rfl); (case hn => rfl); (case hr => exact Z29); intro eM hw; have hg : f5.grownBy eM (some go22) := (by rw [hw]; exact HP77.2); have hp_ : Kd.R k30 30 eM w.heap.size (fun k_ => some k_ ≠ (.slice (some au) ab.length aC : Value).ownBlock) (.slice (some ⟨go22, 0, none⟩) ak.length ap) aV := (by rw [hw, dn.out]; exact HP77.1); clear HP77; refine k3_ (Kd.R_after (v := (.slice (some ⟨go22, 0, none⟩) ak.length ap)) (v1 := (.slice (some ⟨go22, 0, none⟩) ak.length ap)) (ok := (fun _ => True)) (Z1 af) hg (.inl rfl)) (hp_) ((Z40 : Below w.heap.size w eM)) ?_; clear af aa HB; intro af aa HB; clear hg hw hp_; have bj : 0 ≤ (ac : Int) := of_decide_eq_true (Z4); have bk : ac < (ab.length : Int) := of_decide_eq_true (Z4); obtain ⟨bF, e681, bQ, bR⟩ := at_T30 (Kd.R_reads' af.out).2.2 ac bj bk; obtain rfl : au = bF := (Z131); replace bj := eq_true bj; replace bk := eq_true bk; have cn : 0 ≤ (ae : Int) := of_decide_eq_true (Z4); have cp : (ae : Int) < ((ak.length : Int) : Int) := of_decide_eq_true (Z4); obtain ⟨ce25, hcl25, hM25, hcc25, hfr25⟩ := Kd.R_elem aa.out z30 (ae : Int) cn cp; obtain rfl := k30_openM hM25; have ca : eM.cell? ⟨go22, (ae : Int).toNat * 2, none⟩ = some (.int .i64 ((rd_T30 aV ae).f0)) := hcc25 0 _ rfl; have cb : eM.cell? ⟨go22, (ae : Int).toNat * 2 + 1, none⟩ = some (.int .i64 ((rd_T30 aV ae).f1)) := hcc25 1 _ rfl; have hf25_0 : eM.frozen? ⟨go22, (ae : Int).toNat * 2, none⟩ = false := hfr25 0; have hf25_1 : eM.frozen? ⟨go22, (ae : Int).toNat * 2 + 1, none⟩ = false := hfr25 1; clear hcl25 hcc25 hfr25 hM25; replace cn := eq_true cn; replace cp := eq_true cp; have HX79 := Aside0.mk (show Kd.R k30 30 eM w.heap.size (fun k_ => some k_ ≠ (.slice (some au) ab.length aC : Value).ownBlock) (.slice (some ⟨go22, 0, none⟩) ak.length ap) aV from (Z1 aa)); obtain ⟨ce79, hcl79, hM79, hcc79, hfr79⟩ := Kd.R_elem HX79.out z30 (ae : Int) (of_decide_eq_true (Z4)) (Z10); obtain rfl := k30_openM hM79; have HP79 := Kd.R_seg HX79.out (ae : Int) (of_decide_eq_true (Z4)) (Z10) (seg := [.int .i64 ((rd_T30 ab ac).f0), .int .i64 ((rd_T30 ab ac).f1)]) (j := 0) hcl79 hcc79 (show 2 ≤ 2 from by decide) (x' := (⟨(rd_T30 ab ac).f0, (rd_T30 ab ac).f1⟩ : S30)) (k30_mkM _ _ _ (⟨(rd_T30 ab ac).f0, (rd_T30 ab ac).f1⟩ : S30) ) (fun _ hk => hk); have dW := hcc79 0 _ rfl; (try simp only [show (k30).sz = 2 from rfl, Nat.mul_one, Nat.add_zero] at dW); have hf79_0 := hfr79 0; (try simp only [show (k30).sz = 2 from rfl, Nat.mul_one, Nat.add_zero] at hf79_0); have dX := hcc79 1 _ rfl; (try simp only [show (k30).sz = 2 from rfl, Nat.mul_one, Nat.add_zero] at dX); have hf79_1 := hfr79 1; (try simp only [show (k30).sz = 2 from rfl, Nat.mul_one, Nat.add_zero] at hf79_1); clear hcl79 hcc79 hfr79 hM79) | ((with_reducible refine gate_store (t := 30) (p := 96) rfl ?_); refine store_event (t := 30) (p := 96) (v := ?vo_w80) (w1 := ((eM.setCell ⟨go22, (ae : Int).toNat * 2, none⟩ (.int .i64 ((rd_T30 ab ac).f0))).setCell ⟨go22, (ae : Int).toNat * 2 + 1, none⟩ (.int .i64 ((rd_T30 ab ac).f1)))) ?hg ?ho ?hn ?hr ?_; (case ho => rfl); (case hg => rfl); (case hn => rfl); (case hr => exact Z29); intro sA hw; have hg : eM.grownBy sA (some go22) := (by rw [hw]; exact HP79.2); have hp_ : Kd.R k30 30 sA w.heap.size (fun k_ => some k_ ≠ (.slice (some au) ab.length aC : Value).ownBlock) (.slice (some ⟨go22, 0, none⟩) ak.length ap) aK := (by rw [hw, dp.out]; exact HP79.1); clear HP79; refine k3_ (Kd.R_after (v := (.slice (some ⟨go22, 0, none⟩) ak.length ap)) (v1 := (.slice (some ⟨go22, 0, none⟩) ak.length ap)) (ok := (fun _ => True)) (Z1 af) hg (.inl rfl)) (hp_) ((Z40 : Below w.heap.size w sA)) ?_; clear af aa HB; intro af aa HB; clear hg hw hp_) | (go_at_call 8; (with_reducible refine (impl_WayOfHead.calls cC _ _ ab aE en true _ ?_ ?_ m4.out).mono ?_); exact (Z5 af); exact (Kd.R_reads' af.out).2.1; rintro e D1 ⟨rfl, hb⟩; refine k3_ (Ya_ af) (Ya_ aa) (below_step (Z2) hb) ?_; clear af aa HB; intro af aa HB; (try clear hb)) | (go_at_call 8; refine calls_of_args (args' := #[.slice (some ⟨go22, 0, none⟩) aK.length ap, .int .i64 aE]) (Z25) ?_; (with_reducible refine (impl_WayOfHead.calls cC _ _ aK aE ep false _ ?_ ?_ gS.out).mono ?_); exact (Z5 aa); exact Z21; rintro e D2 ⟨rfl, hb⟩; refine k3_ (Ya_ af) (Ya_ aa) (below_step (Z2) hb) ?_; clear af aa HB; intro af aa HB; (try clear hb)) | (go_at_call 6; refine calls_of_args (args' := #[.slice (some ⟨go22, 0, none⟩) aK.length ap, .int .i64 ac, .int .i64 ae, .int .i64 aE]) (Z25) ?_; (with_reducible refine (impl_SwapGain.calls cC _ _ aK ac ae aE eq lG _ ?_ ?_ gW.out).mono ?_); exact (Z5 aa); exact Z21; rintro e D3 ⟨rfl, hb⟩; refine k3_ (Ya_ af) (Ya_ aa) (below_step (Z2) hb) ?_; clear af aa HB; intro af aa HB; (try clear hb)))
                repeat (go_quiet (fail); try go_wp2_with (fail))
                go_ret
                exact ⟨Z12, Z2⟩
              replace c29 := Bool.eq_false_iff.mpr c29
              subst c29
              rw [if_neg (show ¬ (false = true) by decide)] at H
              obtain rfl := Option.some.inj H
              as_aux_lemma =>
               go_wp2_with (first | ((with_reducible refine gate_dst (N := 80) rfl ?_); (try (refine gate_guard (by rfl) ?_; dsimp only)); refine Kd.R_lit k30 _ 30 ?hg (N := 80) ?hd (xs := ([] : List (S30))) (inner := []) (ok := fun _ => True) (okp := fun _ => True) ?hr ?hp (fun _ hk => hk) trivial (Below.refl _ _) (Nat.le_refl _) (by simp) ?_; (case hd => rfl); (case hg => rfl); (case hr => exact Z29); (case hp => exact (Reps.none _ _)); intro cD D4 ho85 hb hg_ hnew_; clear hg_ hnew_; (first | rw [← bB.out] at ho85 | (simp only [Int.reduceToNat] at ho85; rw [← bB.out] at ho85)); refine k3_ (Kd.R_elder' (Z1 af) (Kd.R_base ho85) hb) (Kd.R_lower (Kd.R_new' ho85 (Yd_ af)) (below_size (Z2))) (below_step (Z2) hb) ?_; clear af HB; intro af aZ HB; clear hb ho85) | ((with_reducible refine gate_builtin (b := .append) (xs := #[.tmp 80, .tmp 81]) rfl ?_); (try (refine gate_guard (by rfl) ?_; dsimp only)); at_builtin; refine Kd.R_append_rows k30 (w0 := w) w.heap.size rfl (.tmp 80) (.tmp 81) 24 30 (.agg #[(.int .i64 0), (.int .i64 0)]) 16 rfl Tryz.underlying24 info30 rfl (by decide) (by omega) cD dD ab _ _ _ (fun k_ => some k_ ≠ (.slice dy ab.length aC : Value).ownBlock) (fun _ => False) rfl rfl ?aO ?aR (fun _ _ h => h) (fun _ h => h.elim) ?aF ?aB ?aS ?aL ?_; (case aR => exact Z5 af); (case aB => exact Z2); (case aF => exact (fun k_ hk => Kd.fresh' (Yd_ af) k_ hk)); (case aO => exact (Z26 aZ)); (case aS => exact (below_size (Z2))); (case aL => exact Z76 dl); intro f4 f7 ho hb hg hat; rw [← dm.out] at ho; refine k3_ (Kd.R_after (ok := (fun _ => True)) (Z1 af) hg hat) (hb) (ho) ?_; clear af HB aZ; intro af HB aa; clear ho hb hg hat; have bh : 0 ≤ (ae : Int) := of_decide_eq_true (Z4); have bi : ae < (ab.length : Int) := of_decide_eq_true (Z4); obtain ⟨au, e679, bO, bP⟩ := at_T30 (Kd.R_reads' af.out).2.2 ae bh bi; cases e679; replace bh := eq_true bh; replace bi := eq_true bi; have cx : 0 ≤ (ac : Int) := of_decide_eq_true (Z4); have cy : (ac : Int) < ((ak.length : Int) : Int) := of_decide_eq_true (Z4); obtain ⟨go22, ap, bA, bE, gl22, cl22, HG22⟩ := Kd.R_form aa.out (by omega); (first | cases bA | (injection bA with ea_ en_ ec_; (first | subst ea_ | (injection ea_ with ea_; subst ea_)); subst ec_; clear en_)); have GB22 := Aside0.mk bE; have GG22 := Aside0.mk HG22; clear bE gl22 HG22; obtain ⟨ce22, hcl22, hM22, hcc22, hfr22⟩ := Kd.R_elem aa.out z30 (ac : Int) cx cy; obtain rfl := k30_openM hM22; have cr : f7.cell? ⟨go22, (ac : Int).toNat * 2, none⟩ = some (.int .i64 ((rd_T30 ak ac).f0)) := hcc22 0 _ rfl; have ct : f7.cell? ⟨go22, (ac : Int).toNat * 2 + 1, none⟩ = some (.int .i64 ((rd_T30 ak ac).f1)) := hcc22 1 _ rfl; have hf22_0 : f7.frozen? ⟨go22, (ac : Int).toNat * 2, none⟩ = false := hfr22 0; have hf22_1 : f7.frozen? ⟨go22, (ac : Int).toNat * 2 + 1, none⟩ = false := hfr22 1; clear hcl22 hcc22 hfr22 hM22; replace cx := eq_true cx; replace cy := eq_true cy; have HX87 := Aside0.mk (show Kd.R k30 30 f7 w.heap.size (fun k_ => some k_ ≠ (.slice (some au) ab.length aC : Value).ownBlock) (.slice (some ⟨go22, 0, none⟩) ak.length ap) ak from (Z1 aa)); obtain ⟨ce87, hcl87, hM87, hcc87, hfr87⟩ := Kd.R_elem HX87.out z30 (ac : Int) (of_decide_eq_true (Z4)) (Z9); obtain rfl := k30_openM hM87; have HP87 := Kd.R_seg HX87.out (ac : Int) (of_decide_eq_true (Z4)) (Z9) (seg := [.int .i64 ((rd_T30 ab ae).f0), .int .i64 ((rd_T30 ab ae).f1)]) (j := 0) hcl87 hcc87 (show 2 ≤ 2 from by decide) (x' := (⟨(rd_T30 ab ae).f0, (rd_T30 ab ae).f1⟩ : S30)) (k30_mkM _ _ _ (⟨(rd_T30 ab ae).f0, (rd_T30 ab ae).f1⟩ : S30) ) (fun _ hk => hk); have dY := hcc87 0 _ rfl; (try simp only [show (k30).sz = 2 from rfl, Nat.mul_one, Nat.add_zero] at dY); have hf87_0 := hfr87 0; (try simp only [show (k30).sz = 2 from rfl, Nat.mul_one, Nat.add_zero] at hf87_0); have dZ := hcc87 1 _ rfl; (try simp only [show (k30).sz = 2 from rfl, Nat.mul_one, Nat.add_zero] at dZ); have hf87_1 := hfr87 1; (try simp only [show (k30).sz = 2 from rfl, Nat.mul_one, Nat.add_zero] at hf87_1); clear hcl87 hcc87 hfr87 hM87) | ((with_reducible refine gate_store (t := 30) (p := 89) rfl ?_); refine store_event (t := 30) (p := 89) (v := ?vo_w88) (w1 := ((f7.setCell ⟨go22, (ac : Int).toNat * 2, none⟩ (.int .i64 ((rd_T30 ab ae).f0))).setCell ⟨go22, (ac : Int).toNat * 2 + 1, none⟩ (.int .i64 ((rd_T30 ab ae).f1)))) ?hg ?ho ?hn ?hr ?_; (case ho => rfl); (case hg => rfl); (case hn => rfl); (case hr => exact Z29); intro eN hw; have hg : f7.grownBy eN (some go22) := (by rw [hw]; exact HP87.2); have hp_ : Kd.R k30 30 eN w.heap.size (fun k_ => some k_ ≠ (.slice (some au) ab.length aC : Value).ownBlock) (.slice (some ⟨go22, 0, none⟩) ak.length ap) aV := (by rw [hw, dn.out]; exact HP87.1); clear HP87; refine k3_ (Kd.R_after (v := (.slice (some ⟨go22, 0, none⟩) ak.length ap)) (v1 := (.slice (some ⟨go22, 0, none⟩) ak.length ap)) (ok := (fun _ => True)) (Z1 af) hg (.inl rfl)) (hp_) ((Z40 : Below w.heap.size w eN)) ?_; clear af aa HB; intro af aa HB; clear hg hw hp_; have bj : 0 ≤ (ac : Int) := of_decide_eq_true (Z4); have bk : ac < (ab.length : Int) := of_decide_eq_true (Z4); obtain ⟨bF, e681, bQ, bR⟩ := at_T30 (Kd.R_reads' af.out).2.2 ac bj bk; obtain rfl : au = bF := (Z131); replace bj := eq_true bj; replace bk := eq_true bk; have cn : 0 ≤ (ae : Int) := of_decide_eq_true (Z4); have cp : (ae : Int) < ((ak.length : Int) : Int) := of_decide_eq_true (Z4); obtain ⟨ce25, hcl25, hM25, hcc25, hfr25⟩ := Kd.R_elem aa.out z30 (ae : Int) cn cp; obtain rfl := k30_openM hM25; have ca : eN.cell? ⟨go22, (ae : Int).toNat * 2, none⟩ = some (.int .i64 ((rd_T30 aV ae).f0)) := hcc25 0 _ rfl; have cb : eN.cell? ⟨go22, (ae : Int).toNat * 2 + 1, none⟩ = some (.int .i64 ((rd_T30 aV ae).f1)) := hcc25 1 _ rfl; have hf25_0 : eN.frozen? ⟨go22, (ae : Int).toNat * 2, none⟩ = false := hfr25 0; have hf25_1 : eN.frozen? ⟨go22, (ae : Int).toNat * 2 + 1, none⟩ = false := hfr25 1; clear hcl25 hcc25 hfr25 hM25; replace cn := eq_true cn; replace cp := eq_true cp; have HX89 := Aside0.mk (show Kd.R k30 30 eN w.heap.size (fun k_ => some k_ ≠ (.slice (some au) ab.length aC : Value).ownBlock) (.slice (some ⟨go22, 0, none⟩) ak.length ap) aV from (Z1 aa)); obtain ⟨ce89, hcl89, hM89, hcc89, hfr89⟩ := Kd.R_elem HX89.out z30 (ae : Int) (of_decide_eq_true (Z4)) (Z10); obtain rfl := k30_openM hM89; have HP89 := Kd.R_seg HX89.out (ae : Int) (of_decide_eq_true (Z4)) (Z10) (seg := [.int .i64 ((rd_T30 ab ac).f0), .int .i64 ((rd_T30 ab ac).f1)]) (j := 0) hcl89 hcc89 (show 2 ≤ 2 from by decide) (x' := (⟨(rd_T30 ab ac).f0, (rd_T30 ab ac).f1⟩ : S30)) (k30_mkM _ _ _ (⟨(rd_T30 ab ac).f0, (rd_T30 ab ac).f1⟩ : S30) ) (fun _ hk => hk); have d0 := hcc89 0 _ rfl; (try simp only [show (k30).sz = 2 from rfl, Nat.mul_one, Nat.add_zero] at d0); have hf89_0 := hfr89 0; (try simp only [show (k30).sz = 2 from rfl, Nat.mul_one, Nat.add_zero] at hf89_0); have d1 := hcc89 1 _ rfl; (try simp only [show (k30).sz = 2 from rfl, Nat.mul_one, Nat.add_zero] at d1); have hf89_1 := hfr89 1; (try simp only [show (k30).sz = 2 from rfl, Nat.mul_one, Nat.add_zero] at hf89_1); clear hcl89 hcc89 hfr89 hM89) | ((with_reducible refine gate_store (t := 30) (p := 96) rfl ?_); refine store_event (t := 30) (p := 96) (v := ?vo_w90) (w1 := ((eN.setCell ⟨go22, (ae : Int).toNat * 2, none⟩ (.int .i64 ((rd_T30 ab ac).f0))).setCell ⟨go22, (ae : Int).toNat * 2 + 1, none⟩ (.int .i64 ((rd_T30 ab ac).f1)))) ?hg ?ho ?hn ?hr ?_; (case ho => rfl); (case hg => rfl); (case hn => rfl); (case hr => exact Z29); intro tM hw; have hg : eN.grownBy tM (some go22) := (by rw [hw]; exact HP89.2); have hp_ : Kd.R k30 30 tM w.heap.size (fun k_ => some k_ ≠ (.slice (some au) ab.length aC : Value).ownBlock) (.slice (some ⟨go22, 0, none⟩) ak.length ap) aK := (by rw [hw, dp.out]; exact HP89.1); clear HP89; refine k3_ (Kd.R_after (v := (.slice (some ⟨go22, 0, none⟩) ak.length ap)) (v1 := (.slice (some ⟨go22, 0, none⟩) ak.length ap)) (ok := (fun _ => True)) (Z1 af) hg (.inl rfl)) (hp_) ((Z40 : Below w.heap.size w tM)) ?_; clear af aa HB; intro af aa HB; clear hg hw hp_) | (go_at_call 8; (with_reducible refine (impl_WayOfHead.calls cC _ _ ab aE en false _ ?_ ?_ m4.out).mono ?_); exact (Z5 af); exact (Kd.R_reads' af.out).2.1; rintro e D5 ⟨rfl, hb⟩; refine k3_ (Ya_ af) (Ya_ aa) (below_step (Z2) hb) ?_; clear af aa HB; intro af aa HB; (try clear hb)) | (go_at_call 8; refine calls_of_args (args' := #[.slice (some ⟨go22, 0, none⟩) aK.length ap, .int .i64 aE]) (Z25) ?_; (with_reducible refine (impl_WayOfHead.calls cC _ _ aK aE ep vR _ ?_ ?_ gS.out).mono ?_); exact (Z5 aa); exact Z21; rintro e D6 ⟨rfl, hb⟩; refine k3_ (Ya_ af) (Ya_ aa) (below_step (Z2) hb) ?_; clear af aa HB; intro af aa HB; (try clear hb)) | (go_at_call 6; refine calls_of_args (args' := #[.slice (some ⟨go22, 0, none⟩) aK.length ap, .int .i64 ac, .int .i64 ae, .int .i64 aE]) (Z25) ?_; (with_reducible refine (impl_SwapGain.calls cC _ _ aK ac ae aE eq lG _ ?_ ?_ gW.out).mono ?_); exact (Z5 aa); exact Z21; rintro e D7 ⟨rfl, hb⟩; refine k3_ (Ya_ af) (Ya_ aa) (below_step (Z2) hb) ?_; clear af aa HB; intro af aa HB; (try clear hb)))
               repeat (go_quiet (fail); try go_wp2_with (fail))
               go_ret
               exact ⟨Z12, Z2⟩
             rw [if_neg c24] at H
             exact absurd H (by simp)
            rw [if_neg c23] at H
            exact absurd H (by simp)
           rw [if_neg c21] at H
           exact absurd H (by simp)
          rw [if_neg c20] at H
          exact absurd H (by simp)
         rw [if_neg c19] at H
         exact absurd H (by simp)
        rw [if_neg c18] at H
        exact absurd H (by simp)
       rw [if_neg c17] at H
       exact absurd H (by simp)
      replace c16 := Bool.eq_false_iff.mpr c16
      subst c16
      rw [if_neg (show ¬ (false = true) by decide)] at H
      have H' := Aside0.mk H
      clear H
      as_aux_lemma =>
       go_wp2
       repeat (go_quiet (fail); try go_wp2)
       (refine Met.intro ?_; go_step; (repeat (first | apply ex_32 | apply ex_8 | apply Exists.intro)); refine ⟨?rel, rfl⟩)
       case rel => exact ⟨_, H', ⟨Z96 rA⟩, ⟨Z2⟩⟩
    case rest =>
     as_aux_lemma =>
      clear HC15
      (try clear c2); (try clear q2); (try clear hx2); (try clear hf2); (try clear hx3); (try clear hf3); (try clear hx4); (try clear hf4); (try clear c5); (try clear hx5); (try clear hf5); (try clear c6); (try clear p6); (try clear q6); (try clear hx6); (try clear hf6); (try clear c7); (try clear hx7); (try clear hf7); (try clear c8); (try clear hx8); (try clear hf8); (try clear c14); (try clear c16); (try clear c17); (try clear c18); (try clear lY); (try clear c19); (try clear jA); (try clear c20); (try clear ea); (try clear c21); (try clear iF); (try clear c22); (try clear cx); (try clear cy); (try clear hx22); (try clear hf22); (try clear c23); (try clear sK); (try clear c24); (try clear qN); (try clear c25); (try clear cn); (try clear cp); (try clear hx25); (try clear hf25); (try clear c29); (try clear c30); (try clear c31); (try clear tL); (try clear xo); (try clear c32); (try clear c33); (try clear ra); (try clear xp); (try clear c37); (try clear hx37); (try clear hf37); (try clear c39); (try clear hx39); (try clear hf39); (try clear c47); (try clear hx47); (try clear hf47); (try clear c49); (try clear hx49); (try clear hf49); (try clear c57); (try clear hx57); (try clear hf57); (try clear c59); (try clear hx59); (try clear hf59); (try clear p64); (try clear c67); (try clear p67); (try clear q67); (try clear hx67); (try clear hf67); (try clear p68); (try clear q68); (try clear hx68); (try clear c69); (try clear hx69); (try clear hf69); (try clear c77); (try clear hx77); (try clear hf77); (try clear c79); (try clear hx79); (try clear hf79); (try clear c87); (try clear hx87); (try clear hf87); (try clear c89); (try clear hx89); (try clear hf89); (try clear cr); (try clear ct); (try clear ca); (try clear cb); (try clear dE); (try clear dF); (try clear dG); (try clear dH); (try clear dI); (try clear dJ); (try clear dK); (try clear dL); (try clear dM); (try clear dN); (try clear dO); (try clear dP); (try clear bO); (try clear bP); (try clear dQ); (try clear dR); (try clear bQ); (try clear bR); (try clear dS); (try clear dT); (try clear dU); (try clear dV); (try clear dW); (try clear dX); (try clear dY); (try clear dZ); (try clear d0); (try clear d1); (try clear bh); (try clear bj); (try clear bi); (try clear bk)
      obtain ⟨kq, HA, gy, HB⟩ := hcut
      cases kq with
      | zero => exact absurd HA.out (by simp [laws_FnHead.j1])
      | succ dt =>
       have H := HA.out
       clear HA
       simp only [laws_FnHead.j1] at H
       replace H := Option.bind_eq_some_iff.mp H
       obtain ⟨⟨eh, cu⟩, Bw, H⟩ := H
       (try dsimp only at H)
       have DC := Aside0.mk Bw
       clear Bw
       replace H := Option.bind_eq_some_iff.mp H
       obtain ⟨⟨ob, hG⟩, Bx, H⟩ := H
       (try dsimp only at H)
       have DD := Aside0.mk Bx
       clear Bx
       replace H := Option.bind_eq_some_iff.mp H
       obtain ⟨⟨d2, jN⟩, Bz, H⟩ := H
       (try dsimp only at H)
       have DE := Aside0.mk Bz
       clear Bz
       replace H := Option.bind_eq_some_iff.mp H
       obtain ⟨⟨mJ, i3⟩, BA, H⟩ := H
       (try dsimp only at H)
       have DF := Aside0.mk BA
       clear BA
       replace H := Option.bind_eq_some_iff.mp H
       obtain ⟨⟨bM, jO⟩, BB, H⟩ := H
       (try dsimp only at H)
       have DG := Aside0.mk BB
       clear BB
       have HC99 := Aside0.mk H
       clear H
       go_upto_region 22 with (first | (go_at_call 9; (with_reducible refine (spec_DrawToolChanges.calls dt _ _ l1 eh cu _ ?_ ?_ DC.out).mono ?_); exact (Z15 HR1); exact HC1.out; rintro e BC ⟨BD, rfl, ho0, hb⟩; refine k2_ (Kd.R_lower ho0 (below_size (Z2))) (below_step (Z2) hb) ?_; clear HB; intro aM HB; (try clear hb ho0); obtain ⟨rb, rc, oc⟩ := Kd.R_slice aM.out; subst oc) | (go_at_call 10; (with_reducible refine (impl_ToolChanges.calls dt _ _ eh cu ob hG _ ?_ ?_ DD.out).mono ?_); exact (Z5 aM); exact (Kd.R_reads' aM.out).2.1; rintro e BE ⟨rfl, hb⟩; refine k2_ (Ya_ aM) (below_step (Z2) hb) ?_; clear aM HB; intro aM HB; (try clear hb)) | (go_at_call 11; (with_reducible refine (spec_ToolChanges.calls dt _ _ eh cu d2 jN _ ?_ ?_ DE.out).mono ?_); exact (Z5 aM); exact (Kd.R_reads' aM.out).2.1; rintro e BF ⟨rfl, hb⟩; refine k2_ (Ya_ aM) (below_step (Z2) hb) ?_; clear aM HB; intro aM HB; (try clear hb)) | (go_at_call 12; (with_reducible refine (impl_WearOf.calls dt _ _ eh cu mJ i3 _ ?_ ?_ DF.out).mono ?_); exact (Z5 aM); exact (Kd.R_reads' aM.out).2.1; rintro e BG ⟨BH, rfl, ho0, hb⟩; refine k3_ (Ya_ aM) (Kd.R_lower ho0 (below_size (Z2))) (below_step (Z2) hb) ?_; clear aM HB; intro aM b6 HB; (try clear hb ho0)) | (go_at_call 13; (with_reducible refine (spec_WearOf.calls dt _ _ eh cu bM jO _ ?_ ?_ DG.out).mono ?_); exact (Z5 aM); exact (Kd.R_reads' aM.out).2.1; rintro e BI ⟨zl, rfl, ho0, hb⟩; refine k4_ (Ya_ aM) (Yb_ b6) (Kd.R_lower (Kd.R_new' ho0 (Yd_ b6)) (below_size (Z2))) (below_step (Z2) hb) ?_; clear aM b6 HB; intro aM b6 cR HB; (try clear hb ho0)))
       repeat (go_quiet (fail); go_upto_region 22 with (fail))
       (try simp only [Act.put, List.setIfInBounds_toArray, List.set_cons_zero, List.set_cons_succ])
       go_cut [192] (fun v192 wc => ∃ (kq : Nat) (jg : Bool), v192 = .bool jg ∧ Aside0 (laws_FnHead.j2 kq l1 eh cu hG d2 bM jg = some r) ∧ Aside0 (kq ≤ dt) ∧ Aside0 (Kd.R k30 30 wc w.heap.size (fun _ => True) (.slice rb eh.length rc) eh) ∧ Aside0 (Kd.R (Kd.int .i64) 3 wc w.heap.size (fun _ => True) zl bM) ∧ Aside0 (Below w.heap.size w wc))
       case first =>
        as_aux_lemma =>
         have H := HC99.out
         clear HC99
         by_cases c106 : (hG != jN) = true
         ·rw [if_pos c106] at H
          have ix : (hG != jN) = true := c106
          (try (have tN : decide (hG = jN) = false := by simpa using c106))
          (try (have tO : (hG == jN) = false := by simpa using c106))
          (try (have c106b3 : ¬ (hG = jN) := by simpa using c106))
          clear c106
          (first | rw [ix] | (simp only [i64_w, i32_w]; rw [ix]) | skip)
          have H' := Aside0.mk H
          clear H
          as_aux_lemma =>
           go_wp2
           repeat (go_quiet (fail); try go_wp2)
           (refine Met.intro ?_; go_step; (repeat (first | apply ex_32 | apply ex_8 | apply Exists.intro)); refine ⟨?rel, rfl⟩)
           case rel => exact ⟨_, (true), (Z16), H', ⟨Z120⟩, ⟨Z1 aM⟩, ⟨Z35 cR⟩, ⟨Z2⟩⟩
         rw [if_neg c106] at H
         have ix : (hG != jN) = false := by simpa using c106
         (try (have tN : decide (hG = jN) = true := by simpa using c106))
         (try (have tO : (hG == jN) = true := by simpa using c106))
         clear c106
         (first | rw [ix] | (simp only [i64_w, i32_w]; rw [ix]) | skip)
         by_cases c107 : ob = d2
         ·rw [if_pos c107] at H
          have tP : (ob == d2) = true := beq_iff_eq.mpr c107
          have tQ : (ob != d2) = false := bne_eq_false_iff_eq.mpr c107
          clear c107
          by_cases c108 : (i3 != jO) = true
          ·rw [if_pos c108] at H
           have tR : (i3 != jO) = true := c108
           (try (have tS : decide (i3 = jO) = false := by simpa using c108))
           (try (have tT : (i3 == jO) = false := by simpa using c108))
           (try (have c108b3 : ¬ (i3 = jO) := by simpa using c108))
           clear c108
           have H' := Aside0.mk H
           clear H
           as_aux_lemma =>
            go_wp2
            repeat (go_quiet (fail); try go_wp2)
            (refine Met.intro ?_; go_step; (repeat (first | apply ex_32 | apply ex_8 | apply Exists.intro)); refine ⟨?rel, rfl⟩)
            case rel => exact ⟨_, (true), (Z16), H', ⟨Z120⟩, ⟨Z1 aM⟩, ⟨Z35 cR⟩, ⟨Z2⟩⟩
          rw [if_neg c108] at H
          have tR : (i3 != jO) = false := by simpa using c108
          (try (have tS : decide (i3 = jO) = true := by simpa using c108))
          (try (have tT : (i3 == jO) = true := by simpa using c108))
          clear c108
          replace H := Option.bind_eq_some_iff.mp H
          obtain ⟨zj, xq, H⟩ := H
          (try dsimp only at H)
          have rY := Aside0.mk xq
          clear xq
          by_cases c110 : zj = true
          ·subst c110
           rw [if_pos rfl] at H
           have H' := Aside0.mk H
           clear H
           obtain ⟨Ao111, co111, eo111⟩ := Kd.R_slice b6.out
           subst eo111
           obtain ⟨Ao112, co112, eo112⟩ := Kd.R_slice cR.out
           subst eo112
           as_aux_lemma =>
            go_wp2_with (go_at_call 14; (with_reducible refine (laws_sameInts.calls dt _ _ mJ _ _ bM true _ ?_ ?_ ?_ ?_ rY.out).mono ?_); exact (Z5 b6); exact (Kd.R_reads' b6.out).2.1; exact (Z5 cR); exact (Kd.R_reads' cR.out).2.1; rintro e w' ⟨rfl, ⟨nd, rfl⟩⟩; (try first | exact ⟨rfl, _, World.drewN_drewN _ _ _⟩ | exact ⟨rfl, _, Eq.trans (World.drewN_drewN _ _ _) (congrArg (World.drewN _) (Nat.add_assoc _ _ _))⟩))
            repeat (go_quiet (fail); try go_wp2_with (fail))
            (refine Met.intro ?_; go_step; (repeat (first | apply ex_32 | apply ex_8 | apply Exists.intro)); refine ⟨?rel, rfl⟩)
            case rel => exact ⟨_, ((i3 != hG)), (Z16), H', ⟨Z120⟩, ⟨Z1 aM⟩, ⟨Z35 cR⟩, ⟨Z2⟩⟩
          replace c110 := Bool.eq_false_iff.mpr c110
          subst c110
          rw [if_neg (show ¬ (false = true) by decide)] at H
          have H' := Aside0.mk H
          clear H
          obtain ⟨Ao113, co113, eo113⟩ := Kd.R_slice b6.out
          subst eo113
          obtain ⟨Ao114, co114, eo114⟩ := Kd.R_slice cR.out
          subst eo114
          as_aux_lemma =>
           go_wp2_with (go_at_call 14; (with_reducible refine (laws_sameInts.calls dt _ _ mJ _ _ bM false _ ?_ ?_ ?_ ?_ rY.out).mono ?_); exact (Z5 b6); exact (Kd.R_reads' b6.out).2.1; exact (Z5 cR); exact (Kd.R_reads' cR.out).2.1; rintro e w' ⟨rfl, ⟨nd, rfl⟩⟩; (try first | exact ⟨rfl, _, World.drewN_drewN _ _ _⟩ | exact ⟨rfl, _, Eq.trans (World.drewN_drewN _ _ _) (congrArg (World.drewN _) (Nat.add_assoc _ _ _))⟩))
           repeat (go_quiet (fail); try go_wp2_with (fail))
           (refine Met.intro ?_; go_step; (repeat (first | apply ex_32 | apply ex_8 | apply Exists.intro)); refine ⟨?rel, rfl⟩)
           case rel => exact ⟨_, (true), (Z16), H', ⟨Z120⟩, ⟨Z1 aM⟩, ⟨Z35 cR⟩, ⟨Z2⟩⟩
         rw [if_neg c107] at H
         have tP : (ob == d2) = false := beq_eq_false_iff_ne.mpr c107
         have tQ : (ob != d2) = true := bne_iff_ne.mpr c107
         have H' := Aside0.mk H
         clear H
         as_aux_lemma =>
          go_wp2
          repeat (go_quiet (fail); try go_wp2)
          (refine Met.intro ?_; go_step; (repeat (first | apply ex_32 | apply ex_8 | apply Exists.intro)); refine ⟨?rel, rfl⟩)
          case rel => exact ⟨_, (true), (Z16), H', ⟨Z120⟩, ⟨Z1 aM⟩, ⟨Z35 cR⟩, ⟨Z2⟩⟩
       case rest =>
        as_aux_lemma =>
         clear HC99
         (try clear c10); (try clear c11); (try clear c106); (try clear ix); (try clear tN); (try clear tO); (try clear c107); (try clear tP); (try clear tQ); (try clear c108); (try clear tR); (try clear tS); (try clear tT); (try clear c110)
         obtain ⟨kq, jg, rfl, HA, lx, re, lZ, HB⟩ := hcut
         cases kq with
         | zero => exact absurd HA.out (by simp [laws_FnHead.j2])
         | succ zm =>
          have H := HA.out
          clear HA
          simp only [laws_FnHead.j2] at H
          by_cases c115 : jg = true
          ·subst c115
           rw [if_pos rfl] at H
           obtain rfl := Option.some.inj H
           as_aux_lemma =>
            go_wp2
            repeat (go_quiet (fail); try go_wp2)
            go_ret
            exact ⟨Z12, Z2⟩
          replace c115 := Bool.eq_false_iff.mpr c115
          subst c115
          rw [if_neg (show ¬ (false = true) by decide)] at H
          have HC116 := Aside0.mk H
          clear H
          go_upto_if 193 with (fail)
          repeat (go_quiet (fail); go_upto_if 193 with (fail))
          go_cut [] (fun wc => ∃ (kq : Nat), Aside0 (laws_FnHead.j4 kq l1 = some r) ∧ Aside0 (kq ≤ zm) ∧ Aside0 (Below w.heap.size w wc))
          case first =>
           as_aux_lemma =>
            have H := HC116.out
            clear HC116
            by_cases c117 : hG = true
            ·subst c117
             rw [if_pos rfl] at H
             have H' := Aside0.mk H
             clear H
             obtain ⟨xr, xt, eo118⟩ := Kd.R_slice lZ.out
             subst eo118
             go_wp2
             repeat (go_quiet (fail); try go_wp2)
             go_loopg [30, 196] zm (fun kq DH v196 w' => ∃ (cN : Int) (bZ : Int), DH = .int .i64 cN ∧ v196 = .int .i64 bZ ∧ Aside0 (laws_FnHead.l0 kq l1 eh cu d2 bM cN bM (bM.length : Int) bZ = some r) ∧ Aside0 (kq ≤ zm) ∧ Aside0 (Kd.R k30 30 w' w.heap.size (fun _ => True) (.slice rb eh.length rc) eh) ∧ Aside0 (Kd.R (Kd.int .i64) 3 w' w.heap.size (fun _ => True) (.slice xr bM.length xt) bM) ∧ Aside0 (Kd.R (Kd.int .i64) 3 w' w.heap.size (fun _ => True) (.slice xr bM.length xt) bM) ∧ Aside0 (Below w.heap.size w w'))
             case atStart => exact ⟨(0), (0), (Z16), (Z16), H', ⟨Nat.le_refl _⟩, ⟨Z1 re⟩, ⟨Z1 lZ⟩, ⟨Z1 lZ⟩, ⟨Z2⟩⟩
             case round =>
              as_aux_lemma =>
               clear H'
               (try clear c115); (try clear c117)
               obtain ⟨cN, bZ, rfl, rfl, HA, HK4, re, lZ, mK, HB⟩ := hrel
               cases gk with
               | zero => exact absurd HA.out (by simp [laws_FnHead.l0])
               | succ k4 =>
                have H := HA.out
                clear HA
                simp only [laws_FnHead.l0] at H
                by_cases c119 : bZ < (bM.length : Int)
                ·rw [if_pos c119] at H
                 have iy : decide (bZ < (bM.length : Int)) = true := decide_eq_true c119
                 clear c119
                 (first | rw [iy] | (simp only [i64_w, i32_w]; rw [iy]) | skip)
                 by_cases c120 : 0 ≤ bZ
                 ·rw [if_pos c120] at H
                  have c120b0 : decide (0 ≤ bZ) = true := decide_eq_true c120
                  clear c120
                  by_cases c121 : bZ < (bM.length : Int)
                  ·rw [if_pos c121] at H
                   have c121b0 : decide (bZ < (bM.length : Int)) = true := decide_eq_true c121
                   clear c121
                   by_cases c122 : (rd bM bZ) > 0
                   ·rw [if_pos c122] at H
                    have tU : decide (0 < (rd bM bZ)) = true := decide_eq_true c122
                    clear c122
                    have H' := Aside0.mk H
                    clear H
                    have od : 0 ≤ (bZ : Int) := of_decide_eq_true (Z4)
                    have oe : bZ < (bM.length : Int) := of_decide_eq_true (Z4)
                    obtain ⟨ad706, e706, rf⟩ := Kd.at_int (Kd.R_reads' mK.out).2.2 bZ od oe
                    cases e706
                    replace od := eq_true od
                    replace oe := eq_true oe
                    as_aux_lemma =>
                     go_wp2
                     repeat (go_quiet (fail); try go_wp2)
                     go_roundg k4
                     case measure => have := rA.out; have := gy.out; have := lx.out; have := HK4.out; omega
                     case rel => exact ⟨(wrap64 (cN + 1)), (wrap64 (bZ + 1)), (Z16), (Z16), H', ⟨by have := rA.out; have := gy.out; have := lx.out; have := HK4.out; omega⟩, ⟨Z1 re⟩, ⟨Z1 lZ⟩, ⟨Z1 mK⟩, ⟨Z2⟩⟩
                   rw [if_neg c122] at H
                   have tU : decide (0 < (rd bM bZ)) = false := decide_eq_false c122
                   clear c122
                   have H' := Aside0.mk H
                   clear H
                   have od : 0 ≤ (bZ : Int) := of_decide_eq_true (Z4)
                   have oe : bZ < (bM.length : Int) := of_decide_eq_true (Z4)
                   obtain ⟨ad706, e706, rf⟩ := Kd.at_int (Kd.R_reads' mK.out).2.2 bZ od oe
                   cases e706
                   replace od := eq_true od
                   replace oe := eq_true oe
                   as_aux_lemma =>
                    go_wp2
                    repeat (go_quiet (fail); try go_wp2)
                    go_roundg k4
                    case measure => have := rA.out; have := gy.out; have := lx.out; have := HK4.out; omega
                    case rel => exact ⟨(cN), (wrap64 (bZ + 1)), (Z16), (Z16), H', ⟨by have := rA.out; have := gy.out; have := lx.out; have := HK4.out; omega⟩, ⟨Z1 re⟩, ⟨Z1 lZ⟩, ⟨Z1 mK⟩, ⟨Z2⟩⟩
                  rw [if_neg c121] at H
                  exact absurd H (by simp)
                 rw [if_neg c120] at H
                 exact absurd H (by simp)
                rw [if_neg c119] at H
                have iy : decide (bZ < (bM.length : Int)) = false := decide_eq_false c119
                clear c119
                (first | rw [iy] | (simp only [i64_w, i32_w]; rw [iy]) | skip)
                by_cases c123 : d2 < 0
                ·rw [if_pos c123] at H
                 have tV : decide (d2 < 0) = true := decide_eq_true c123
                 clear c123
                 obtain rfl := Option.some.inj H
                 as_aux_lemma =>
                  go_wp2
                  repeat (go_quiet (fail); try go_wp2)
                  go_ret
                  exact ⟨Z12, Z2⟩
                rw [if_neg c123] at H
                have tV : decide (d2 < 0) = false := decide_eq_false c123
                clear c123
                by_cases c124 : d2 > 0
                ·rw [if_pos c124] at H
                 have tW : decide (0 < d2) = true := decide_eq_true c124
                 clear c124
                 by_cases c125 : d2 > (wrap64 ((eh.length : Int) - 1))
                 ·rw [if_pos c125] at H
                  have tX : decide ((wrap64 ((eh.length : Int) - 1)) < d2) = true := decide_eq_true c125
                  clear c125
                  obtain rfl := Option.some.inj H
                  as_aux_lemma =>
                   go_wp2
                   repeat (go_quiet (fail); try go_wp2)
                   go_ret
                   exact ⟨Z12, Z2⟩
                 rw [if_neg c125] at H
                 have tX : decide ((wrap64 ((eh.length : Int) - 1)) < d2) = false := decide_eq_false c125
                 clear c125
                 by_cases c126 : cN > 0
                 ·rw [if_pos c126] at H
                  have tY : decide (0 < cN) = true := decide_eq_true c126
                  clear c126
                  by_cases c127 : d2 < (wrap64 (cN - 1))
                  ·rw [if_pos c127] at H
                   have tZ : decide (d2 < (wrap64 (cN - 1))) = true := decide_eq_true c127
                   clear c127
                   obtain rfl := Option.some.inj H
                   as_aux_lemma =>
                    go_wp2
                    repeat (go_quiet (fail); try go_wp2)
                    go_ret
                    exact ⟨Z12, Z2⟩
                  rw [if_neg c127] at H
                  have tZ : decide (d2 < (wrap64 (cN - 1))) = false := decide_eq_false c127
                  clear c127
                  by_cases c128 : (bM.length : Int) = cu
                  ·rw [if_pos c128] at H
                   have t0 : ((bM.length : Int) == cu) = true := beq_iff_eq.mpr c128
                   have t1 : ((bM.length : Int) != cu) = false := bne_eq_false_iff_eq.mpr c128
                   clear c128
                   have H' := Aside0.mk H
                   clear H
                   as_aux_lemma =>
                    go_wp2
                    repeat (go_quiet (fail); try go_wp2)
                    (refine Met.intro ?_; go_step; (repeat (first | apply ex_32 | apply ex_8 | apply Exists.intro)); refine ⟨?rel, rfl⟩)
                    case rel => exact ⟨_, H', ⟨Z113⟩, ⟨Z2⟩⟩
                  rw [if_neg c128] at H
                  have t0 : ((bM.length : Int) == cu) = false := beq_eq_false_iff_ne.mpr c128
                  have t1 : ((bM.length : Int) != cu) = true := bne_iff_ne.mpr c128
                  obtain rfl := Option.some.inj H
                  as_aux_lemma =>
                   go_wp2
                   repeat (go_quiet (fail); try go_wp2)
                   go_ret
                   exact ⟨Z12, Z2⟩
                 rw [if_neg c126] at H
                 have tY : decide (0 < cN) = false := decide_eq_false c126
                 clear c126
                 by_cases c129 : (bM.length : Int) = cu
                 ·rw [if_pos c129] at H
                  have t2 : ((bM.length : Int) == cu) = true := beq_iff_eq.mpr c129
                  have t3 : ((bM.length : Int) != cu) = false := bne_eq_false_iff_eq.mpr c129
                  clear c129
                  have H' := Aside0.mk H
                  clear H
                  as_aux_lemma =>
                   go_wp2
                   repeat (go_quiet (fail); try go_wp2)
                   (refine Met.intro ?_; go_step; (repeat (first | apply ex_32 | apply ex_8 | apply Exists.intro)); refine ⟨?rel, rfl⟩)
                   case rel => exact ⟨_, H', ⟨Z113⟩, ⟨Z2⟩⟩
                 rw [if_neg c129] at H
                 have t2 : ((bM.length : Int) == cu) = false := beq_eq_false_iff_ne.mpr c129
                 have t3 : ((bM.length : Int) != cu) = true := bne_iff_ne.mpr c129
                 obtain rfl := Option.some.inj H
                 as_aux_lemma =>
                  go_wp2
                  repeat (go_quiet (fail); try go_wp2)
                  go_ret
                  exact ⟨Z12, Z2⟩
                rw [if_neg c124] at H
                have tW : decide (0 < d2) = false := decide_eq_false c124
                clear c124
                by_cases c130 : cN > 0
                ·rw [if_pos c130] at H
                 have t4 : decide (0 < cN) = true := decide_eq_true c130
                 clear c130
                 by_cases c131 : d2 < (wrap64 (cN - 1))
                 ·rw [if_pos c131] at H
                  have t5 : decide (d2 < (wrap64 (cN - 1))) = true := decide_eq_true c131
                  clear c131
                  obtain rfl := Option.some.inj H
                  as_aux_lemma =>
                   go_wp2
                   repeat (go_quiet (fail); try go_wp2)
                   go_ret
                   exact ⟨Z12, Z2⟩
                 rw [if_neg c131] at H
                 have t5 : decide (d2 < (wrap64 (cN - 1))) = false := decide_eq_false c131
                 clear c131
                 by_cases c132 : (bM.length : Int) = cu
                 ·rw [if_pos c132] at H
                  have t6 : ((bM.length : Int) == cu) = true := beq_iff_eq.mpr c132
                  have t7 : ((bM.length : Int) != cu) = false := bne_eq_false_iff_eq.mpr c132
                  clear c132
                  have H' := Aside0.mk H
                  clear H
                  as_aux_lemma =>
                   go_wp2
                   repeat (go_quiet (fail); try go_wp2)
                   (refine Met.intro ?_; go_step; (repeat (first | apply ex_32 | apply ex_8 | apply Exists.intro)); refine ⟨?rel, rfl⟩)
                   case rel => exact ⟨_, H', ⟨Z113⟩, ⟨Z2⟩⟩
                 rw [if_neg c132] at H
                 have t6 : ((bM.length : Int) == cu) = false := beq_eq_false_iff_ne.mpr c132
                 have t7 : ((bM.length : Int) != cu) = true := bne_iff_ne.mpr c132
                 obtain rfl := Option.some.inj H
                 as_aux_lemma =>
                  go_wp2
                  repeat (go_quiet (fail); try go_wp2)
                  go_ret
                  exact ⟨Z12, Z2⟩
                rw [if_neg c130] at H
                have t4 : decide (0 < cN) = false := decide_eq_false c130
                clear c130
                by_cases c133 : (bM.length : Int) = cu
                ·rw [if_pos c133] at H
                 have t8 : ((bM.length : Int) == cu) = true := beq_iff_eq.mpr c133
                 have t9 : ((bM.length : Int) != cu) = false := bne_eq_false_iff_eq.mpr c133
                 clear c133
                 have H' := Aside0.mk H
                 clear H
                 as_aux_lemma =>
                  go_wp2
                  repeat (go_quiet (fail); try go_wp2)
                  (refine Met.intro ?_; go_step; (repeat (first | apply ex_32 | apply ex_8 | apply Exists.intro)); refine ⟨?rel, rfl⟩)
                  case rel => exact ⟨_, H', ⟨Z113⟩, ⟨Z2⟩⟩
                rw [if_neg c133] at H
                have t8 : ((bM.length : Int) == cu) = false := beq_eq_false_iff_ne.mpr c133
                have t9 : ((bM.length : Int) != cu) = true := bne_iff_ne.mpr c133
                obtain rfl := Option.some.inj H
                as_aux_lemma =>
                 go_wp2
                 repeat (go_quiet (fail); try go_wp2)
                 go_ret
                 exact ⟨Z12, Z2⟩
            replace c117 := Bool.eq_false_iff.mpr c117
            subst c117
            rw [if_neg (show ¬ (false = true) by decide)] at H
            have H' := Aside0.mk H
            clear H
            as_aux_lemma =>
             go_wp2
             repeat (go_quiet (fail); try go_wp2)
             (refine Met.intro ?_; go_step; (repeat (first | apply ex_32 | apply ex_8 | apply Exists.intro)); refine ⟨?rel, rfl⟩)
             case rel => exact ⟨_, H', ⟨by have := rA.out; have := gy.out; have := lx.out; first | omega | exact Nat.le_refl _⟩, ⟨Z2⟩⟩
          case rest =>
           as_aux_lemma =>
            clear HC116
            (try clear p7); (try clear q7); (try clear c12); (try clear p70); (try clear q70); (try clear hx70); (try clear c115); (try clear c117); (try clear c119); (try clear iy); (try clear c120); (try clear c120b0); (try clear c121); (try clear c121b0); (try clear c122); (try clear tU); (try clear c123); (try clear tV); (try clear c124); (try clear tW); (try clear c125); (try clear tX); (try clear c126); (try clear tY); (try clear c127); (try clear tZ); (try clear c128); (try clear t0); (try clear t1); (try clear c129); (try clear t2); (try clear t3); (try clear c130); (try clear t4); (try clear c131); (try clear t5); (try clear c132); (try clear t6); (try clear t7); (try clear c133); (try clear t8); (try clear t9); (try clear rf); (try clear od); (try clear oe)
            obtain ⟨kq, HA, qE, HB⟩ := hcut
            cases kq with
            | zero => exact absurd HA.out (by simp [laws_FnHead.j4])
            | succ cO =>
             have H := HA.out
             clear HA
             simp only [laws_FnHead.j4] at H
             replace H := Option.bind_eq_some_iff.mp H
             obtain ⟨⟨mL, mM⟩, xu, H⟩ := H
             (try dsimp only at H)
             have zn := Aside0.mk xu
             clear xu
             replace H := Option.bind_eq_some_iff.mp H
             obtain ⟨⟨og, jP⟩, xv, H⟩ := H
             (try dsimp only at H)
             have zo := Aside0.mk xv
             clear xv
             replace H := Option.bind_eq_some_iff.mp H
             obtain ⟨⟨oh, jQ⟩, xw, H⟩ := H
             (try dsimp only at H)
             have zp := Aside0.mk xw
             clear xw
             replace H := Option.bind_eq_some_iff.mp H
             obtain ⟨i2, xx, H⟩ := H
             (try dsimp only at H)
             have zq := Aside0.mk xx
             clear xx
             replace H := Option.bind_eq_some_iff.mp H
             obtain ⟨⟨rZ, gz⟩, xy, H⟩ := H
             (try dsimp only at H)
             have zr := Aside0.mk xy
             clear xy
             replace H := Option.bind_eq_some_iff.mp H
             obtain ⟨⟨cS, jR⟩, xz, H⟩ := H
             (try dsimp only at H)
             have zt := Aside0.mk xz
             clear xz
             have HC140 := Aside0.mk H
             clear H
             go_upto_region 40 with (first | (go_at_call 15; (with_reducible refine (spec_DrawWayOfHead.calls cO _ _ l1 mL mM _ ?_ ?_ zn.out).mono ?_); exact (Z15 HR1); exact HC1.out; rintro e BJ ⟨BK, rfl, ho0, hb⟩; refine k2_ (Kd.R_lower ho0 (below_size (Z2))) (below_step (Z2) hb) ?_; clear HB; intro aJ HB; (try clear hb ho0); obtain ⟨xA, xB, ol⟩ := Kd.R_slice aJ.out; subst ol) | (go_at_call 8; (with_reducible refine (impl_WayOfHead.calls cO _ _ mL mM og jP _ ?_ ?_ zo.out).mono ?_); exact (Z5 aJ); exact (Kd.R_reads' aJ.out).2.1; rintro e BL ⟨rfl, hb⟩; refine k2_ (Ya_ aJ) (below_step (Z2) hb) ?_; clear aJ HB; intro aJ HB; (try clear hb)) | (go_at_call 16; (with_reducible refine (spec_WayOfHead.calls cO _ _ mL mM oh jQ _ ?_ ?_ zp.out).mono ?_); exact (Z5 aJ); exact (Kd.R_reads' aJ.out).2.1; rintro e BM ⟨rfl, hb⟩; refine k2_ (Ya_ aJ) (below_step (Z2) hb) ?_; clear aJ HB; intro aJ HB; (try clear hb)) | (go_at_call 17; (with_reducible refine (spec_DrawRowOrder.calls cO _ _ l1 i2 _ ?_ ?_ zq.out).mono ?_); exact (Z15 HR1); exact HC1.out; rintro e BN ⟨BO, rfl, ho0, hb⟩; refine k3_ (Yb_ aJ) (Kd.R_lower (Kd.R_new' ho0 (Yd_ aJ)) (below_size (Z2))) (below_step (Z2) hb) ?_; clear aJ HB; intro aJ bs HB; (try clear hb ho0); obtain ⟨xC, xD, om⟩ := Kd.R_slice bs.out; subst om) | (go_at_call 18; (with_reducible refine (impl_RowOrder.calls cO _ _ i2 rZ gz _ ?_ ?_ zr.out).mono ?_); exact (Z5 bs); exact (Kd.R_reads' bs.out).2.1; rintro e BP ⟨BQ, rfl, ho0, hb⟩; refine k4_ (Yb_ aJ) (Yb_ bs) (Kd.R_lower (Kd.R_new' (Kd.R_new' ho0 (Yd_ aJ)) (Yd_ bs)) (below_size (Z2))) (below_step (Z2) hb) ?_; clear aJ bs HB; intro aJ bs cT HB; (try clear hb ho0)) | (go_at_call 19; (with_reducible refine (spec_RowOrder.calls cO _ _ i2 cS jR _ ?_ ?_ zt.out).mono ?_); exact (Z5 bs); exact (Kd.R_reads' bs.out).2.1; rintro e BR ⟨ua, rfl, ho0, hb⟩; refine k5_ (Yb_ aJ) (Yb_ bs) (Yb_ cT) (Kd.R_lower (Kd.R_new' (Kd.R_new' (Kd.R_new' ho0 (Yd_ aJ)) (Yd_ bs)) (Yd_ cT)) (below_size (Z2))) (below_step (Z2) hb) ?_; clear aJ bs cT HB; intro aJ bs cT e8 HB; (try clear hb ho0)))
             repeat (go_quiet (fail); go_upto_region 40 with (fail))
             (try simp only [Act.put, List.setIfInBounds_toArray, List.set_cons_zero, List.set_cons_succ])
             go_cut [281] (fun v281 wc => ∃ (kq : Nat) (hJ : Bool), v281 = .bool hJ ∧ Aside0 (laws_FnHead.j5 kq gz cS hJ = some r) ∧ Aside0 (kq ≤ cO) ∧ Aside0 (Kd.R k30 30 wc w.heap.size (fun _ => True) ua cS) ∧ Aside0 (Below w.heap.size w wc))
             case first =>
              as_aux_lemma =>
               have H := HC140.out
               clear HC140
               by_cases c149 : (jP != jQ) = true
               ·rw [if_pos c149] at H
                have iz : (jP != jQ) = true := c149
                (try (have ub : decide (jP = jQ) = false := by simpa using c149))
                (try (have uc : (jP == jQ) = false := by simpa using c149))
                (try (have c149b3 : ¬ (jP = jQ) := by simpa using c149))
                clear c149
                (first | rw [iz] | (simp only [i64_w, i32_w]; rw [iz]) | skip)
                have H' := Aside0.mk H
                clear H
                as_aux_lemma =>
                 go_wp2
                 repeat (go_quiet (fail); try go_wp2)
                 (refine Met.intro ?_; go_step; (repeat (first | apply ex_32 | apply ex_8 | apply Exists.intro)); refine ⟨?rel, rfl⟩)
                 case rel => exact ⟨_, (true), (Z16), H', ⟨Z112⟩, ⟨Z35 e8⟩, ⟨Z2⟩⟩
               rw [if_neg c149] at H
               have iz : (jP != jQ) = false := by simpa using c149
               (try (have ub : decide (jP = jQ) = true := by simpa using c149))
               (try (have uc : (jP == jQ) = true := by simpa using c149))
               clear c149
               (first | rw [iz] | (simp only [i64_w, i32_w]; rw [iz]) | skip)
               by_cases c150 : og = oh
               ·rw [if_pos c150] at H
                have ud : (og == oh) = true := beq_iff_eq.mpr c150
                have ue : (og != oh) = false := bne_eq_false_iff_eq.mpr c150
                clear c150
                by_cases c151 : (gz != jR) = true
                ·rw [if_pos c151] at H
                 have uf : (gz != jR) = true := c151
                 (try (have ug : decide (gz = jR) = false := by simpa using c151))
                 (try (have uh : (gz == jR) = false := by simpa using c151))
                 (try (have c151b3 : ¬ (gz = jR) := by simpa using c151))
                 clear c151
                 have H' := Aside0.mk H
                 clear H
                 as_aux_lemma =>
                  go_wp2
                  repeat (go_quiet (fail); try go_wp2)
                  (refine Met.intro ?_; go_step; (repeat (first | apply ex_32 | apply ex_8 | apply Exists.intro)); refine ⟨?rel, rfl⟩)
                  case rel => exact ⟨_, (true), (Z16), H', ⟨Z112⟩, ⟨Z35 e8⟩, ⟨Z2⟩⟩
                rw [if_neg c151] at H
                have uf : (gz != jR) = false := by simpa using c151
                (try (have ug : decide (gz = jR) = true := by simpa using c151))
                (try (have uh : (gz == jR) = true := by simpa using c151))
                clear c151
                replace H := Option.bind_eq_some_iff.mp H
                obtain ⟨rV, xE, H⟩ := H
                (try dsimp only at H)
                have zu := Aside0.mk xE
                clear xE
                have H' := Aside0.mk H
                clear H
                obtain ⟨Ao153, co153, eo153⟩ := Kd.R_slice cT.out
                subst eo153
                obtain ⟨Ao154, co154, eo154⟩ := Kd.R_slice e8.out
                subst eo154
                as_aux_lemma =>
                 go_wp2_with (go_at_call 20; (with_reducible refine (laws_pSameStrokes.calls cO _ _ rZ _ _ cS rV _ ?_ ?_ ?_ ?_ zu.out).mono ?_); exact (Z5 cT); exact (Kd.R_reads' cT.out).2.1; exact (Z5 e8); exact (Kd.R_reads' e8.out).2.1; rintro e w' ⟨rfl, ⟨nd, rfl⟩⟩; (try first | exact ⟨rfl, _, World.drewN_drewN _ _ _⟩ | exact ⟨rfl, _, Eq.trans (World.drewN_drewN _ _ _) (congrArg (World.drewN _) (Nat.add_assoc _ _ _))⟩))
                 repeat (go_quiet (fail); try go_wp2_with (fail))
                 (refine Met.intro ?_; go_step; (repeat (first | apply ex_32 | apply ex_8 | apply Exists.intro)); refine ⟨?rel, rfl⟩)
                 case rel => exact ⟨_, (!rV), (Z16), H', ⟨Z112⟩, ⟨Z35 e8⟩, ⟨Z2⟩⟩
               rw [if_neg c150] at H
               have ud : (og == oh) = false := beq_eq_false_iff_ne.mpr c150
               have ue : (og != oh) = true := bne_iff_ne.mpr c150
               have H' := Aside0.mk H
               clear H
               as_aux_lemma =>
                go_wp2
                repeat (go_quiet (fail); try go_wp2)
                (refine Met.intro ?_; go_step; (repeat (first | apply ex_32 | apply ex_8 | apply Exists.intro)); refine ⟨?rel, rfl⟩)
                case rel => exact ⟨_, (true), (Z16), H', ⟨Z112⟩, ⟨Z35 e8⟩, ⟨Z2⟩⟩
             case rest =>
              as_aux_lemma =>
               clear HC140
               (try clear c15); (try clear c149); (try clear iz); (try clear ub); (try clear uc); (try clear c150); (try clear ud); (try clear ue); (try clear c151); (try clear uf); (try clear ug); (try clear uh)
               obtain ⟨kq, hJ, rfl, HA, sC, e9, HB⟩ := hcut
               cases kq with
               | zero => exact absurd HA.out (by simp [laws_FnHead.j5])
               | succ xF =>
                have H := HA.out
                clear HA
                simp only [laws_FnHead.j5] at H
                by_cases c155 : hJ = true
                ·subst c155
                 rw [if_pos rfl] at H
                 obtain rfl := Option.some.inj H
                 as_aux_lemma =>
                  go_wp2
                  repeat (go_quiet (fail); try go_wp2)
                  go_ret
                  exact ⟨Z12, Z2⟩
                replace c155 := Bool.eq_false_iff.mpr c155
                subst c155
                rw [if_neg (show ¬ (false = true) by decide)] at H
                have H' := Aside0.mk H
                clear H
                go_wp2
                repeat (go_quiet (fail); try go_wp2)
                go_loopg [44] xF (fun kq v44 w' => ∃ (cm : Int), v44 = .int .i64 cm ∧ Aside0 (laws_FnHead.l1 kq gz cS cm = some r) ∧ Aside0 (kq ≤ xF) ∧ Aside0 (Kd.R k30 30 w' w.heap.size (fun _ => True) ua cS) ∧ Aside0 (Below w.heap.size w w'))
                case atStart => exact ⟨(1), (Z16), H', ⟨Nat.le_refl _⟩, ⟨Z1 e9⟩, ⟨Z2⟩⟩
                case round =>
                 as_aux_lemma =>
                  clear H'
                  (try clear c155)
                  obtain ⟨cm, rfl, HA, HK6, e9, HB⟩ := hrel
                  cases gk with
                  | zero => exact absurd HA.out (by simp [laws_FnHead.l1])
                  | succ k6 =>
                   have H := HA.out
                   clear HA
                   simp only [laws_FnHead.l1] at H
                   have HC156 := Aside0.mk H
                   clear H
                   go_upto_region 43 with (fail)
                   repeat (go_quiet (fail); go_upto_region 43 with (fail))
                   go_cut [288] (fun BS wc => ∃ (kq : Nat) (hL : Bool), BS = .bool hL ∧ Aside0 (laws_FnHead.j7 kq gz cS cm hL = some r) ∧ Aside0 (kq ≤ k6) ∧ Aside0 (Kd.R k30 30 wc w.heap.size (fun _ => True) ua cS) ∧ Aside0 (Below w.heap.size w wc))
                   case first =>
                    as_aux_lemma =>
                     have H := HC156.out
                     clear HC156
                     by_cases c157 : gz = true
                     ·subst c157
                      rw [if_pos rfl] at H
                      have H' := Aside0.mk H
                      clear H
                      obtain ⟨Ao158, co158, eo158⟩ := Kd.R_slice e9.out
                      subst eo158
                      as_aux_lemma =>
                       go_wp2
                       repeat (go_quiet (fail); try go_wp2)
                       (refine Met.intro ?_; go_step; (repeat (first | apply ex_32 | apply ex_8 | apply Exists.intro)); refine ⟨?rel, rfl⟩)
                       case rel => exact ⟨_, (decide (cm < (cS.length : Int))), (Z16), H', ⟨Z151⟩, ⟨Z1 e9⟩, ⟨Z2⟩⟩
                     replace c157 := Bool.eq_false_iff.mpr c157
                     subst c157
                     rw [if_neg (show ¬ (false = true) by decide)] at H
                     have H' := Aside0.mk H
                     clear H
                     as_aux_lemma =>
                      go_wp2
                      repeat (go_quiet (fail); try go_wp2)
                      (refine Met.intro ?_; go_step; (repeat (first | apply ex_32 | apply ex_8 | apply Exists.intro)); refine ⟨?rel, rfl⟩)
                      case rel => exact ⟨_, (false), (Z16), H', ⟨Z151⟩, ⟨Z1 e9⟩, ⟨Z2⟩⟩
                   case rest =>
                    as_aux_lemma =>
                     clear HC156
                     (try clear c157)
                     obtain ⟨kq, hL, rfl, HA, xG, e9, HB⟩ := hcut
                     cases kq with
                     | zero => exact absurd HA.out (by simp [laws_FnHead.j7])
                     | succ xH =>
                      have H := HA.out
                      clear HA
                      simp only [laws_FnHead.j7] at H
                      by_cases c159 : hL = true
                      ·subst c159
                       rw [if_pos rfl] at H
                       obtain ⟨dA, hji160⟩ : ∃ j_ : Int, (wrap64 (cm - 1)) = j_ := ⟨_, rfl⟩
                       replace H : (if 0 ≤ (dA) then (if (dA) < (cS.length : Int) then (if 0 ≤ cm then (if cm < (cS.length : Int) then (if ((rd_T30 cS (dA)).f1) > ((rd_T30 cS cm).f1) then (some false) else (laws_FnHead.l1 xH gz cS (wrap64 (cm + 1)))) else (none)) else (none)) else (none)) else (none)) = some r := by first | (rw [hji160] at H; exact H) | (simp only [hji160] at H ⊢; exact H)
                       have hji160w : (IntKind.i64.wrap (cm - 1)) = dA := (i64_w _).trans hji160
                       by_cases c161 : 0 ≤ (dA)
                       ·rw [if_pos c161] at H
                        have c161b0 : decide (0 ≤ (dA)) = true := decide_eq_true c161
                        clear c161
                        by_cases c162 : (dA) < (cS.length : Int)
                        ·rw [if_pos c162] at H
                         have c162b0 : decide ((dA) < (cS.length : Int)) = true := decide_eq_true c162
                         clear c162
                         by_cases c163 : 0 ≤ cm
                         ·rw [if_pos c163] at H
                          have c163b0 : decide (0 ≤ cm) = true := decide_eq_true c163
                          clear c163
                          by_cases c164 : cm < (cS.length : Int)
                          ·rw [if_pos c164] at H
                           have c164b0 : decide (cm < (cS.length : Int)) = true := decide_eq_true c164
                           clear c164
                           by_cases c165 : ((rd_T30 cS (dA)).f1) > ((rd_T30 cS cm).f1)
                           ·rw [if_pos c165] at H
                            have c165b0 : decide (((rd_T30 cS cm).f1) < ((rd_T30 cS (dA)).f1)) = true := decide_eq_true c165
                            clear c165
                            obtain rfl := Option.some.inj H
                            obtain ⟨Ao166, co166, eo166⟩ := Kd.R_slice e9.out
                            subst eo166
                            have qd : 0 ≤ ((dA) : Int) := of_decide_eq_true (Z4)
                            have qe : (dA) < (cS.length : Int) := of_decide_eq_true (Z4)
                            obtain ⟨ui, e727, hx727_0, hx727_1⟩ := at_T30 (Kd.R_reads' e9.out).2.2 (dA) qd qe
                            cases e727
                            replace qd := eq_true qd
                            replace qe := eq_true qe
                            have qf : 0 ≤ (cm : Int) := of_decide_eq_true (Z4)
                            have qg : cm < (cS.length : Int) := of_decide_eq_true (Z4)
                            obtain ⟨uj, e728, hx728_0, hx728_1⟩ := at_T30 (Kd.R_reads' e9.out).2.2 cm qf qg
                            obtain rfl : ui = uj := (by injection e728)
                            replace qf := eq_true qf
                            replace qg := eq_true qg
                            as_aux_lemma =>
                             go_wp2
                             repeat (go_quiet (fail); try go_wp2)
                             go_ret
                             exact ⟨by first | rfl | (simp [errW_none, errW_some] <;> rfl) | (simp only [← hji160]; first | rfl | (simp [errW_none, errW_some] <;> rfl)) | (simp [*, errW_none, errW_some] <;> rfl), Z2⟩
                           rw [if_neg c165] at H
                           have c165b0 : decide (((rd_T30 cS cm).f1) < ((rd_T30 cS (dA)).f1)) = false := decide_eq_false c165
                           clear c165
                           have H' := Aside0.mk H
                           clear H
                           obtain ⟨Ao167, co167, eo167⟩ := Kd.R_slice e9.out
                           subst eo167
                           have qd : 0 ≤ ((dA) : Int) := of_decide_eq_true (Z4)
                           have qe : (dA) < (cS.length : Int) := of_decide_eq_true (Z4)
                           obtain ⟨ui, e727, hx727_0, hx727_1⟩ := at_T30 (Kd.R_reads' e9.out).2.2 (dA) qd qe
                           cases e727
                           replace qd := eq_true qd
                           replace qe := eq_true qe
                           have qf : 0 ≤ (cm : Int) := of_decide_eq_true (Z4)
                           have qg : cm < (cS.length : Int) := of_decide_eq_true (Z4)
                           obtain ⟨uj, e728, hx728_0, hx728_1⟩ := at_T30 (Kd.R_reads' e9.out).2.2 cm qf qg
                           obtain rfl : ui = uj := (by injection e728)
                           replace qf := eq_true qf
                           replace qg := eq_true qg
                           as_aux_lemma =>
                            go_wp2
                            repeat (go_quiet (fail); try go_wp2)
                            go_roundg xH
                            case measure => have := rA.out; have := gy.out; have := lx.out; have := qE.out; have := sC.out; have := HK6.out; have := xG.out; omega
                            case rel => exact ⟨(wrap64 (cm + 1)), (Z16), H', ⟨by have := rA.out; have := gy.out; have := lx.out; have := qE.out; have := sC.out; have := HK6.out; have := xG.out; omega⟩, ⟨Z1 e9⟩, ⟨Z2⟩⟩
                          rw [if_neg c164] at H
                          exact absurd H (by simp)
                         rw [if_neg c163] at H
                         exact absurd H (by simp)
                        rw [if_neg c162] at H
                        exact absurd H (by simp)
                       rw [if_neg c161] at H
                       exact absurd H (by simp)
                      replace c159 := Bool.eq_false_iff.mpr c159
                      subst c159
                      rw [if_neg (show ¬ (false = true) by decide)] at H
                      obtain rfl := Option.some.inj H
                      as_aux_lemma =>
                       go_wp2
                       repeat (go_quiet (fail); try go_wp2)
                       go_ret
                       exact ⟨Z12, Z2⟩

/-- THE ONE PURE STATEMENT of laws_FnHead: yours. -/
theorem laws_FnHead.walk (P : laws_FnHead.Pure) (a0 : Option Addr) (len0 cap0 : Nat) (z0 : List Int) (a1 : Option Addr) (len1 cap1 : Nat) (z1 : List Int) (w : World) (w0 : (a0 = none ∧ len0 = 0 ∧ cap0 = 0 ∧ z0 = []) ∨ ∃ x, a0 = some x ∧ len0 ≤ cap0 ∧ cap0 ≤ maxLen ∧ z0.length = cap0 ∧ (∀ i, i < z0.length → w.cell? (x.add i) = some (.int .u8 (z0.getD i 0))) ∧ ∀ n ∈ z0, (Lit.int .u8 n).wf = true) (y0 : len0 * 1 ≤ 140737488351232) (w1 : (a1 = none ∧ len1 = 0 ∧ cap1 = 0 ∧ z1 = []) ∨ ∃ x, a1 = some x ∧ len1 ≤ cap1 ∧ cap1 ≤ maxLen ∧ z1.length = cap1 ∧ (∀ i, i < z1.length → w.cell? (x.add i) = some (.int .u8 (z1.getD i 0))) ∧ ∀ n ∈ z1, (Lit.int .u8 n).wf = true) (y1 : len1 * 1 ≤ 140737488351232) :
  Calls Tryz.prog 3 #[.slice a0 len0 cap0, .slice a1 len1 cap1] w fun e w' => e = .returned (.bool true) ∧ Below w.heap.size w w' := by
 obtain ⟨l0, rfl, hr0, hm0, hw0, hc0⟩ := ReadsInt.ofRowC w0
 obtain ⟨l1, rfl, hr1, hm1, hw1, hc1⟩ := ReadsInt.ofRowC w1
 obtain ⟨k, h⟩ := P l0 l1 hm0 y0 hw0 hm1 y1 hw1
 refine (laws_FnHead.calls k _ _ l0 _ _ l1 true w (Kd.C_of_reads (d := (0 : Int)) (h1 := fun _ => rfl) hr0) hc0 (Kd.C_of_reads (d := (0 : Int)) (h1 := fun _ => rfl) hr1) hc1 h).mono ?_
 rintro e w' ⟨rfl, hd⟩
 exact ⟨rfl, hd⟩

end Go.Proofs.YtmnnmddfmmaohaaGreat.PFnHead
