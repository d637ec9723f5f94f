-- written by a program of this session: the kit's print, with outer functions of the session's own (wip/ext)
import Derived.Test.YtmnnmddfmmaohaaGreatPFnHeadx0
import Derived.Test.YtmnnmddfmmaohaaGreatPFnHeadx2
import Derived.Test.YtmnnmddfmmaohaaGreatPFnHeadx8
import Derived.Test.YtmnnmddfmmaohaaGreatPFnHeadx9
namespace Go.Proofs.YtmnnmddfmmaohaaGreat.PFnHead
open Go.RowKit Go.Proofs.YtmnnmddfmmaohaaGreatW.PrintWords Go.Proofs.YtmnnmddfmmaohaaGreatW.PrintLast Go.Proofs.YtmnnmddfmmaohaaGreatW.PrintMore
attribute [local go_sem] max2_int min2_int max_two min_two max_three min_three max_four min_four   -- for this text's walks alone
set_option linter.unusedVariables false
set_option linter.unusedSimpArgs false
theorem mo10_ {p : Prop} (h : p := by repeat' first | (with_reducible first | apply ih0 | apply ih0 | apply impl_AreStrokes.mono | apply impl_AreStrokes.mono | apply impl_wayOfHead.mono | apply impl_wayOfHead.mono | exact LeO.refl _ | exact LeO.none _ | refine LeO.ite ?_ ?_ | refine LeO.bind ?_ (fun _ => ?_)) | exact LeO.none _ | refine LeO.ite ?_ ?_ | refine LeO.bind ?_ (fun _ => ?_)) : p := h

/-! ### impl_SwapGain: function 6 -/
def impl_SwapGain.j0 : Nat → List (S30) → Int → Int → Int → Bool → Option (Int × Bool)
 | 0, _, _, _, _, _ => none
 | k + 1, x0, x1, x2, x3, x38 => if x38 = true then (some (0, false)) else ((slices_Clone_Stroke.f x0).bind fun bD => (if 0 ≤ x2 then (if x2 < (bD.length : Int) then (if 0 ≤ x1 then (if x1 < (bD.length : Int) then ((impl_wayOfHead.f k x0 x3).bind fun pu => ((impl_wayOfHead.f k ((bD.set (x1 : Int).toNat (⟨(rd_T30 bD x2).f0, (rd_T30 bD x2).f1⟩ : S30)).set (x2 : Int).toNat (⟨(rd_T30 bD x1).f0, (rd_T30 bD x1).f1⟩ : S30)) x3).bind fun pv => (some (wrap64 (pu - pv), true)))) else (none)) else (none)) else (none)) else (none)))
def impl_SwapGain.f (k : Nat) (l0 : List (S30)) (a1 : Int) (a2 : Int) (a3 : Int) : Option (Int × Bool) := (impl_AreStrokes.f k l0).bind fun sH => (if sH = true then ((impl_isAcross.f a3).bind fun sI => (if sI = true then (if a1 < 0 then (impl_SwapGain.j0 k l0 a1 a2 a3 true) else (if a1 ≥ (l0.length : Int) then (impl_SwapGain.j0 k l0 a1 a2 a3 true) else (if a2 < 0 then (impl_SwapGain.j0 k l0 a1 a2 a3 true) else (impl_SwapGain.j0 k l0 a1 a2 a3 (decide (a2 ≥ (l0.length : Int))))))) else (impl_SwapGain.j0 k l0 a1 a2 a3 true))) else (impl_SwapGain.j0 k l0 a1 a2 a3 true))
theorem impl_SwapGain.mono_l : ∀ k, (∀ y0 y1 y2 y3 y4, LeO (impl_SwapGain.j0 k y0 y1 y2 y3 y4) (impl_SwapGain.j0 (k + 1) y0 y1 y2 y3 y4))
 | 0 => fun _ _ _ _ _ r h => by simp [impl_SwapGain.j0] at h
 | k + 1 => by
  have ih0 := impl_SwapGain.mono_l k
  ·intro y0 y1 y2 y3 y4
   unfold impl_SwapGain.j0
   exact mo10_
theorem impl_SwapGain.mono : ∀ a0 a1 a2 a3 k, LeO (impl_SwapGain.f k a0 a1 a2 a3) (impl_SwapGain.f (k + 1) a0 a1 a2 a3) := by
 intro a0 a1 a2 a3 k
 have ih0 := impl_SwapGain.mono_l k
 unfold impl_SwapGain.f
 exact mo10_
def impl_SwapGain.T4 : Bool × List (List Nat × List Nat) := (true, [([], []), ([], []), ([], []), ([], []), ([], []), ([], []), ([4, 5], [4, 5]), ([6], [6]), ([], []), ([], []), ([8, 9], [8, 9]), ([10], [10]), ([0, 1, 0, 1, 4, 5, 6, 7, 11], [0, 1]), ([12, 7, 0, 1, 4, 5, 6, 7, 11], [7, 12]), ([2, 3, 0, 1, 2, 3, 4, 5, 6, 7, 8, 9, 10, 11, 12, 13], [2, 3]), ([14, 11, 13, 0, 1, 2, 3, 4, 5, 6, 7, 8, 9, 10, 11, 12, 13], [11, 14])])
def impl_SwapGain.B4 : List Nat := [0, 0, 0, 0, 0, 0, 48, 112, 0, 0, 768, 1792, 4083, 8179, 16383, 32767]
theorem impl_SwapGain.tab4 : rtab .any (opsOf Tryz.f6 4) = impl_SwapGain.T4 := by kernel_rfl
theorem impl_SwapGain.bits4 : waitsOk impl_SwapGain.T4.2 impl_SwapGain.B4 = true := by kernel_rfl
set_option maxHeartbeats 8000000 in
set_option maxRecDepth 100000 in
theorem impl_SwapGain.calls (k : Nat) (A0 : Option Addr) (c0 : Nat) (l0 : List (S30)) (a1 : Int) (a2 : Int) (a3 : Int) (r1 : Int) (r2 : Bool) (w : World) (hr0 : Kd.C k30 w A0 l0.length l0) (hc0 : l0.length ≤ c0) (h : impl_SwapGain.f k l0 a1 a2 a3 = some (r1, r2)) :
  Calls Tryz.prog 6 #[.slice A0 l0.length c0, .int .i64 a1, .int .i64 a2, .int .i64 a3] w fun e w' => e = .returned (.tuple #[.int .i64 r1, .bool r2]) ∧ Below w.heap.size w w' := by
 have hu30 := Tryz.underlying30
 have HR0 := Aside0.mk hr0
 have HC0 := Aside0.mk hc0
 clear hr0 hc0
 have HB := Aside0.mk (Below.refl w.heap.size w)
 have H : ((impl_AreStrokes.f k l0).bind fun sH => (if sH = true then ((impl_isAcross.f a3).bind fun sI => (if sI = true then (if a1 < 0 then (impl_SwapGain.j0 k l0 a1 a2 a3 true) else (if a1 ≥ (l0.length : Int) then (impl_SwapGain.j0 k l0 a1 a2 a3 true) else (if a2 < 0 then (impl_SwapGain.j0 k l0 a1 a2 a3 true) else (impl_SwapGain.j0 k l0 a1 a2 a3 (decide (a2 ≥ (l0.length : Int))))))) else (impl_SwapGain.j0 k l0 a1 a2 a3 true))) else (impl_SwapGain.j0 k l0 a1 a2 a3 true))) = some (r1, r2) := h
 clear h
 have HC5 := Aside0.mk H
 clear H
 go_enter Tryz.func6, Tryz.ntmps6
 go_upto_region 1 with (fail)
 go_cut [38] (fun v38 wc => ∃ (kq : Nat) (qM : Bool), v38 = .bool qM ∧ Aside0 (impl_SwapGain.j0 kq l0 a1 a2 a3 qM = some (r1, r2)) ∧ Aside0 (kq ≤ k) ∧ Aside0 (Below w.heap.size w wc))
 case first =>
  have H := HC5.out
  clear HC5
  replace H := Option.bind_eq_some_iff.mp H
  obtain ⟨sH, fV, H⟩ := H
  (try dsimp only at H)
  have A6 := Aside0.mk fV
  clear fV
  by_cases c7 : sH = true
  ·subst c7
   rw [if_pos rfl] at H
   replace H := Option.bind_eq_some_iff.mp H
   obtain ⟨sI, m7, H⟩ := H
   (try dsimp only at H)
   have A8 := Aside0.mk m7
   clear m7
   by_cases c9 : sI = true
   ·subst c9
    rw [if_pos rfl] at H
    by_cases c10 : a1 < 0
    ·rw [if_pos c10] at H
     have cg : decide (a1 < 0) = true := decide_eq_true c10
     clear c10
     (first | rw [cg] | (simp only [i64_w, i32_w]; rw [cg]) | skip)
     have H' := Aside0.mk H
     clear H
     go_wp2_with (first | ((with_reducible refine gate_callee (f := 24) rfl ?_); refine gl_ 12 Tryz.func24 #[.slice A0 l0.length c0] ?_; (with_reducible refine (impl_AreStrokes.calls k _ _ l0 true _ ?_ ?_ A6.out).mono ?_); exact (Z15 HR0); exact HC0.out; rintro e lA ⟨rfl, hb⟩; refine ⟨_, rfl, ?_⟩; refine k1_ (below_step (Z2) hb) ?_; clear HB; intro HB; (try clear hb)) | (go_at_call 25; (with_reducible refine (impl_isAcross.calls a3 true _ A8.out).mono ?_); rintro e w' ⟨rfl, ⟨nd, rfl⟩⟩))
     go_meet
     case rel => exact ⟨_, (true), (Z16), H', ⟨Z68⟩, ⟨Z2⟩⟩
    rw [if_neg c10] at H
    have cg : decide (a1 < 0) = false := decide_eq_false c10
    clear c10
    (first | rw [cg] | (simp only [i64_w, i32_w]; rw [cg]) | skip)
    by_cases c12 : a1 ≥ (l0.length : Int)
    ·rw [if_pos c12] at H
     have iE : decide ((l0.length : Int) ≤ a1) = true := decide_eq_true c12
     clear c12
     have H' := Aside0.mk H
     clear H
     go_wp2_with (first | ((with_reducible refine gate_callee (f := 24) rfl ?_); refine gl_ 12 Tryz.func24 #[.slice A0 l0.length c0] ?_; (with_reducible refine (impl_AreStrokes.calls k _ _ l0 true _ ?_ ?_ A6.out).mono ?_); exact (Z15 HR0); exact HC0.out; rintro e m8 ⟨rfl, hb⟩; refine ⟨_, rfl, ?_⟩; refine k1_ (below_step (Z2) hb) ?_; clear HB; intro HB; (try clear hb)) | (go_at_call 25; (with_reducible refine (impl_isAcross.calls a3 true _ A8.out).mono ?_); rintro e w' ⟨rfl, ⟨nd, rfl⟩⟩))
     go_meet
     case rel => exact ⟨_, (true), (Z16), H', ⟨Z68⟩, ⟨Z2⟩⟩
    rw [if_neg c12] at H
    have iE : decide ((l0.length : Int) ≤ a1) = false := decide_eq_false c12
    clear c12
    by_cases c14 : a2 < 0
    ·rw [if_pos c14] at H
     have gU : decide (a2 < 0) = true := decide_eq_true c14
     clear c14
     have H' := Aside0.mk H
     clear H
     go_wp2_with (first | ((with_reducible refine gate_callee (f := 24) rfl ?_); refine gl_ 12 Tryz.func24 #[.slice A0 l0.length c0] ?_; (with_reducible refine (impl_AreStrokes.calls k _ _ l0 true _ ?_ ?_ A6.out).mono ?_); exact (Z15 HR0); exact HC0.out; rintro e l8 ⟨rfl, hb⟩; refine ⟨_, rfl, ?_⟩; refine k1_ (below_step (Z2) hb) ?_; clear HB; intro HB; (try clear hb)) | (go_at_call 25; (with_reducible refine (impl_isAcross.calls a3 true _ A8.out).mono ?_); rintro e w' ⟨rfl, ⟨nd, rfl⟩⟩))
     go_meet
     case rel => exact ⟨_, (true), (Z16), H', ⟨Z68⟩, ⟨Z2⟩⟩
    rw [if_neg c14] at H
    have gU : decide (a2 < 0) = false := decide_eq_false c14
    clear c14
    have H' := Aside0.mk H
    clear H
    go_wp2_with (first | ((with_reducible refine gate_callee (f := 24) rfl ?_); refine gl_ 12 Tryz.func24 #[.slice A0 l0.length c0] ?_; (with_reducible refine (impl_AreStrokes.calls k _ _ l0 true _ ?_ ?_ A6.out).mono ?_); exact (Z15 HR0); exact HC0.out; rintro e pw ⟨rfl, hb⟩; refine ⟨_, rfl, ?_⟩; refine k1_ (below_step (Z2) hb) ?_; clear HB; intro HB; (try clear hb)) | (go_at_call 25; (with_reducible refine (impl_isAcross.calls a3 true _ A8.out).mono ?_); rintro e w' ⟨rfl, ⟨nd, rfl⟩⟩))
    go_meet
    case rel => exact ⟨_, (decide (a2 ≥ (l0.length : Int))), (Z16), H', ⟨Z68⟩, ⟨Z2⟩⟩
   replace c9 := Bool.eq_false_iff.mpr c9
   subst c9
   rw [if_neg (show ¬ (false = true) by decide)] at H
   have H' := Aside0.mk H
   clear H
   go_wp2_with (first | ((with_reducible refine gate_callee (f := 24) rfl ?_); refine gl_ 12 Tryz.func24 #[.slice A0 l0.length c0] ?_; (with_reducible refine (impl_AreStrokes.calls k _ _ l0 true _ ?_ ?_ A6.out).mono ?_); exact (Z15 HR0); exact HC0.out; rintro e vC ⟨rfl, hb⟩; refine ⟨_, rfl, ?_⟩; refine k1_ (below_step (Z2) hb) ?_; clear HB; intro HB; (try clear hb)) | (go_at_call 25; (with_reducible refine (impl_isAcross.calls a3 false _ A8.out).mono ?_); rintro e w' ⟨rfl, ⟨nd, rfl⟩⟩))
   go_meet
   case rel => exact ⟨_, (true), (Z16), H', ⟨Z68⟩, ⟨Z2⟩⟩
  replace c7 := Bool.eq_false_iff.mpr c7
  subst c7
  rw [if_neg (show ¬ (false = true) by decide)] at H
  have H' := Aside0.mk H
  clear H
  go_wp2_with (first | ((with_reducible refine gate_callee (f := 24) rfl ?_); refine gl_ 12 Tryz.func24 #[.slice A0 l0.length c0] ?_; (with_reducible refine (impl_AreStrokes.calls k _ _ l0 false _ ?_ ?_ A6.out).mono ?_); exact (Z15 HR0); exact HC0.out; rintro e Da ⟨rfl, hb⟩; refine ⟨_, rfl, ?_⟩; refine k1_ (below_step (Z2) hb) ?_; clear HB; intro HB; (try clear hb)))
  go_meet
  case rel => exact ⟨_, (true), (Z16), H', ⟨Z68⟩, ⟨Z2⟩⟩
 case rest =>
  clear HC5
  (try clear c1); (try clear c2); (try clear p2); (try clear c6); (try clear c7); (try clear c9); (try clear c10); (try clear cg); (try clear c12); (try clear iE); (try clear c14); (try clear gU)
  obtain ⟨kq, qM, rfl, HA, AA, HB⟩ := hcut
  cases kq with
  | zero => exact absurd HA.out (by simp [impl_SwapGain.j0])
  | succ lB =>
   have H := HA.out
   clear HA
   simp only [impl_SwapGain.j0] at H
   by_cases c19 : qM = true
   ·subst c19
    rw [if_pos rfl] at H
    simp only [Option.some.injEq, Prod.mk.injEq] at H
    obtain ⟨rfl, rfl⟩ := H
    go_wp2
    go_ret2
    exact ⟨Z12, Z2⟩
   replace c19 := Bool.eq_false_iff.mpr c19
   subst c19
   rw [if_neg (show ¬ (false = true) by decide)] at H
   replace H := Option.bind_eq_some_iff.mp H
   obtain ⟨bD, sJ, H⟩ := H
   (try dsimp only at H)
   have cK := Aside0.mk sJ
   clear sJ
   by_cases c21 : 0 ≤ a2
   ·rw [if_pos c21] at H
    have iF : decide (0 ≤ a2) = true := decide_eq_true c21
    clear c21
    by_cases c22 : a2 < (bD.length : Int)
    ·rw [if_pos c22] at H
     have m9 : decide (a2 < (bD.length : Int)) = true := decide_eq_true c22
     clear c22
     by_cases c23 : 0 ≤ a1
     ·rw [if_pos c23] at H
      have sK : decide (0 ≤ a1) = true := decide_eq_true c23
      clear c23
      by_cases c24 : a1 < (bD.length : Int)
      ·rw [if_pos c24] at H
       have qN : decide (a1 < (bD.length : Int)) = true := decide_eq_true c24
       clear c24
       obtain ⟨vD, na⟩ : ∃ y_ : List (S30), y_ = (bD.set (a1 : Int).toNat (⟨(rd_T30 bD a2).f0, (rd_T30 bD a2).f1⟩ : S30)) := ⟨_, rfl⟩
       replace H : ((impl_wayOfHead.f lB l0 a3).bind fun pu => ((impl_wayOfHead.f lB (vD.set (a2 : Int).toNat (⟨(rd_T30 bD a1).f0, (rd_T30 bD a1).f1⟩ : S30)) a3).bind fun pv => (some (wrap64 (pu - pv), true)))) = some (r1, r2) := by first | (rw [na]; with_reducible exact H) | (have H2_ := (Option.bind_some _ _).symm.trans H; rw [na]; with_reducible exact H2_) | (have H2_ := (Option.bind_some _ _).symm.trans H; with_reducible exact H2_) | with_reducible exact H | (rw [na]; exact H) | exact H
       have Ny476 := Aside0.mk na
       clear na
       obtain ⟨sL, nb⟩ : ∃ y_ : List (S30), y_ = (vD.set (a2 : Int).toNat (⟨(rd_T30 bD a1).f0, (rd_T30 bD a1).f1⟩ : S30)) := ⟨_, rfl⟩
       replace H : ((impl_wayOfHead.f lB l0 a3).bind fun pu => ((impl_wayOfHead.f lB sL a3).bind fun pv => (some (wrap64 (pu - pv), true)))) = some (r1, r2) := by first | (rw [nb]; with_reducible exact H) | (have H2_ := (Option.bind_some _ _).symm.trans H; rw [nb]; with_reducible exact H2_) | (have H2_ := (Option.bind_some _ _).symm.trans H; with_reducible exact H2_) | with_reducible exact H | (rw [nb]; exact H) | exact H
       have Ny477 := Aside0.mk nb
       clear nb
       replace H := Option.bind_eq_some_iff.mp H
       obtain ⟨pu, nc, H⟩ := H
       (try dsimp only at H)
       have gS := Aside0.mk nc
       clear nc
       replace H := Option.bind_eq_some_iff.mp H
       obtain ⟨pv, gV, H⟩ := H
       (try dsimp only at H)
       have gW := Aside0.mk gV
       clear gV
       simp only [Option.some.injEq, Prod.mk.injEq] at H
       obtain ⟨rfl, rfl⟩ := H
       try go_wp2_with (first | ((with_reducible refine gate_callee (f := 26) rfl ?_); refine gl_ 40 Tryz.func26 #[.slice A0 l0.length c0] ?_; (with_reducible refine (slices_Clone_Stroke.calls _ _ l0 bD _ ?_ ?_ cK.out).mono ?_); exact (Z15 HR0); exact HC0.out; rintro e DQ ⟨v472, rfl, ho0, hb⟩; refine ⟨_, rfl, ?_⟩; refine k2_ (Kd.R_lower ho0 (below_size (Z2))) (below_step (Z2) hb) ?_; clear HB; intro cz HB; (try clear hb ho0)))
       refine k2_ (Kd.R_drew cz.out) (below_drew1 HB.out) ?_
       clear cz HB
       intro cz HB
       obtain ⟨Ao31, co31, AF⟩ := Kd.R_slice cz.out
       (first | subst AF | (injection AF with f1_ f2_ f3_; have f4_ := f1_.symm; have f5_ := f3_.symm; clear f1_ f2_ f3_; subst f4_; subst f5_))
       have ym : 0 ≤ (a2 : Int) := of_decide_eq_true (Z4)
       have yn : a2 < (bD.length : Int) := of_decide_eq_true (Z4)
       obtain ⟨ad474, e474, l9, ma⟩ := at_T30 (Kd.R_reads' cz.out).2.2 a2 ym yn
       cases e474
       replace ym := eq_true ym
       replace yn := eq_true yn
       have yo : 0 ≤ (a1 : Int) := of_decide_eq_true (Z4)
       have yp : a1 < (bD.length : Int) := of_decide_eq_true (Z4)
       obtain ⟨ad475, e475, mb, mc⟩ := at_T30 (Kd.R_reads' cz.out).2.2 a1 yo yp
       obtain rfl : ad474 = ad475 := (by injection e475)
       replace yo := eq_true yo
       replace yp := eq_true yp
       have cn : 0 ≤ (a1 : Int) := of_decide_eq_true (Z4)
       have cp : (a1 : Int) < ((bD.length : Int) : Int) := of_decide_eq_true (Z4)
       obtain ⟨go25, co25, AG, AH, gl25, cl25, HG25⟩ := Kd.R_form cz.out (by omega)
       (first | cases AG | (injection AG with ea_ en_ ec_; (first | subst ea_ | (injection ea_ with ea_; subst ea_)); subst ec_; clear en_))
       have GB25 := Aside0.mk AH
       have GG25 := Aside0.mk HG25
       clear AH gl25 HG25
       (first | simp only [add_plain] at l9 | skip)
       (first | simp only [add_plain] at ma | skip)
       (first | simp only [add_plain] at mb | skip)
       (first | simp only [add_plain] at mc | skip)
       obtain ⟨ce25, hcl25, hM25, hcc25, hfr25⟩ := Kd.R_elem cz.out z30 (a1 : Int) cn cp
       obtain rfl := k30_openM hM25
       have ca : World.cell? _ ⟨go25, (a1 : Int).toNat * 2, none⟩ = some (.int .i64 ((rd_T30 bD a1).f0)) := hcc25 0 _ rfl
       have cb : World.cell? _ ⟨go25, (a1 : Int).toNat * 2 + 1, none⟩ = some (.int .i64 ((rd_T30 bD a1).f1)) := hcc25 1 _ rfl
       have hf25_0 : World.frozen? _ ⟨go25, (a1 : Int).toNat * 2, none⟩ = false := hfr25 0
       have hf25_1 : World.frozen? _ ⟨go25, (a1 : Int).toNat * 2 + 1, none⟩ = false := hfr25 1
       clear hcl25 hcc25 hfr25 hM25
       replace cn := eq_true cn
       replace cp := eq_true cp
       obtain ⟨ce32, hcl32, hM32, hcc32, hfr32⟩ := Kd.R_elem cz.out z30 (a1 : Int) (of_decide_eq_true (Z4)) (Z142)
       obtain rfl := k30_openM hM32
       have HP32 := (Kd.R_seg cz.out (a1 : Int) (of_decide_eq_true (Z4)) (Z142) (seg := [.int .i64 ((rd_T30 bD a2).f0), .int .i64 ((rd_T30 bD a2).f1)]) (j := 0) hcl32 hcc32 (show 2 ≤ 2 from by decide) (x' := (⟨(rd_T30 bD a2).f0, (rd_T30 bD a2).f1⟩ : S30)) (k30_mkM _ _ _ (⟨(rd_T30 bD a2).f0, (rd_T30 bD a2).f1⟩ : S30) ) (fun _ hk => hk)).1
       rw [← Ny476.out] at HP32
       have HQ32 := Aside0.mk HP32
       clear hcl32 hcc32 hfr32 hM32 HP32
       have wJ : 0 ≤ (a2 : Int) := of_decide_eq_true (Z4)
       have su : (a2 : Int) < ((bD.length : Int) : Int) := of_decide_eq_true (Z4)
       obtain ⟨ce26, hcl26, hM26, hcc26, hfr26⟩ := Kd.R_elem HQ32.out z30 (a2 : Int) wJ su
       obtain rfl := k30_openM hM26
       have sM : World.cell? _ ⟨go25, (a2 : Int).toNat * 2, none⟩ = some (.int .i64 ((rd_T30 vD a2).f0)) := hcc26 0 _ rfl
       have sN : World.cell? _ ⟨go25, (a2 : Int).toNat * 2 + 1, none⟩ = some (.int .i64 ((rd_T30 vD a2).f1)) := hcc26 1 _ rfl
       have hf26_0 : World.frozen? _ ⟨go25, (a2 : Int).toNat * 2, none⟩ = false := hfr26 0
       have hf26_1 : World.frozen? _ ⟨go25, (a2 : Int).toNat * 2 + 1, none⟩ = false := hfr26 1
       clear hcl26 hcc26 hfr26 hM26
       replace wJ := eq_true wJ
       replace su := eq_true su
       obtain ⟨ce33, hcl33, hM33, hcc33, hfr33⟩ := Kd.R_elem HQ32.out z30 (a2 : Int) (of_decide_eq_true (Z4)) (Z143)
       obtain rfl := k30_openM hM33
       have HP33 := (Kd.R_seg HQ32.out (a2 : Int) (of_decide_eq_true (Z4)) (Z143) (seg := [.int .i64 ((rd_T30 bD a1).f0), .int .i64 ((rd_T30 bD a1).f1)]) (j := 0) hcl33 hcc33 (show 2 ≤ 2 from by decide) (x' := (⟨(rd_T30 bD a1).f0, (rd_T30 bD a1).f1⟩ : S30)) (k30_mkM _ _ _ (⟨(rd_T30 bD a1).f0, (rd_T30 bD a1).f1⟩ : S30) ) (fun _ hk => hk)).1
       rw [← Ny477.out] at HP33
       have HQ33 := Aside0.mk HP33
       clear hcl33 hcc33 hfr33 hM33 HP33
       refine start_ (n := 16) (S := fun w' => w'.cell? ⟨go25, ((a2).toNat * 2), none⟩ = some (.int .i64 ((rd_T30 bD a2).f0)) ∧ w'.cell? ⟨go25, ((a2).toNat * 2) + 1, none⟩ = some (.int .i64 ((rd_T30 bD a2).f1)) ∧ w'.cell? ⟨go25, ((a1).toNat * 2), none⟩ = some (.int .i64 ((rd_T30 bD a1).f0)) ∧ w'.cell? ⟨go25, ((a1).toNat * 2) + 1, none⟩ = some (.int .i64 ((rd_T30 bD a1).f1))) (ds := [13, 15]) (M_ 0 16) (by kernel_rfl) rfl rfl ⟨l9, ma, mb, mc⟩ (fun hHeld => ?_); refine with_tabW impl_SwapGain.tab4 impl_SwapGain.bits4 (fun HT_ HW_ => ?_)
       generalize DQ.drew = pq at cz HB GG25 HQ32 HQ33 hf25_0 hf25_1 hf26_0 hf26_1 ca cb sM sN l9 ma mb mc hHeld ⊢
       have g0_ : 0 ≤ a2 := of_eq_true wJ
       have g1_ : a2 < (bD.length : Int) := of_eq_true su
       obtain ⟨ceA, hclA, hMA, hccA, hfrA⟩ := Kd.R_elem cz.out z30 (a2 : Int) g0_ g1_
       obtain rfl := k30_openM hMA
       have hA0 : pq.cell? ⟨go25, (a2 : Int).toNat * 2, none⟩ = some (.int .i64 ((rd_T30 bD a2).f0)) := hccA 0 _ rfl
       have hA1 : pq.cell? ⟨go25, (a2 : Int).toNat * 2 + 1, none⟩ = some (.int .i64 ((rd_T30 bD a2).f1)) := hccA 1 _ rfl
       have hfA0 : pq.frozen? ⟨go25, (a2 : Int).toNat * 2, none⟩ = false := hfrA 0
       have hfA1 : pq.frozen? ⟨go25, (a2 : Int).toNat * 2 + 1, none⟩ = false := hfrA 1
       obtain ⟨uA0, huA0⟩ := cell?_setCell_some (p := ⟨go25, (a1 : Int).toNat * 2, none⟩) (x := .int .i64 ((rd_T30 bD a2).f0)) hA0
       have hA2 : (pq.setCell ⟨go25, (a1 : Int).toNat * 2, none⟩ (.int .i64 ((rd_T30 bD a2).f0))).cell? ⟨go25, (a2 : Int).toNat * 2 + 1, none⟩ = some (.int .i64 ((rd_T30 bD a2).f1)) := (World.cell?_setCell_other _ _ _ _ (by intro h_; simp only [Addr.mk.injEq] at h_; omega)).trans hA1
       obtain ⟨uA1, huA1⟩ := cell?_setCell_some (p := ⟨go25, (a1 : Int).toNat * 2 + 1, none⟩) (x := .int .i64 ((rd_T30 bD a2).f1)) hA2
       clear g0_ g1_ hclA hccA hfrA hMA hA0 hA1 hA2
       refine pu_ 0 41 (M_ 1 15) ?_
       refine pu_ 1 42 (M_ 2 14) ?_
       refine pu_ 2 43 (M_ 3 13) ?_
       refine pu_ 3 44 (M_ 4 12) ?_
       refine pu_ 4 45 (M_ 5 11) ?_
       refine pu_ 5 46 (M_ 6 10) ?_
       refine pu_ 6 47 (M_ 7 9) ?_
       refine pu_ 8 49 (N_ 16 383) ?_
       refine pu_ 9 50 (N_ 16 895) ?_
       refine pu_ 10 51 (N_ 16 1919) ?_
       refine tk4_ 7 48 (M_ 11 5) hHeld ?_
       refine tk4_ 11 52 (M_ 12 4) hHeld ?_
       refine pu_ 12 53 (M_ 13 3) ?_
       refine last_ (i := 13) (N := none) (M_ 14 2) rfl rfl (one_of HT_.out (by kernel_rfl)) (by decide) (fun K hK => ?_)
       refine skip_ (w1 := ?_) (by rfl) rfl ?_ ?_
       rotate_left
       ·go_simp
        rfl
       refine hK.out _ _ ?_
       clear hK K
       refine pu_ 14 54 (M_ 15 1) ?_
       refine last_ (i := 15) (N := none) (M_ 16 0) rfl rfl (one_of HT_.out (by kernel_rfl)) (by decide) (fun K hK => ?_)
       refine skip_ (w1 := ?_) (by rfl) rfl ?_ ?_
       rotate_left
       ·go_simp
        rfl
       refine hK.out _ _ ?_
       clear hK K
       refine done_ (done_of HT_.out (by kernel_rfl)) ?_
       try go_wp2_with (first | ((with_reducible refine gate_callee (f := 27) rfl ?_); refine gl_ 57 Tryz.func27 #[.slice A0 l0.length c0, .int .i64 a3] ?_; (with_reducible refine (impl_wayOfHead.calls lB _ _ l0 a3 pu _ ?_ ?_ gS.out).mono ?_); exact Kd.C_below HR0.out (Z123); exact HC0.out; rintro e ne ⟨rfl, hb⟩; refine ⟨_, rfl, ?_⟩; refine k2_ (Ya_ HQ33) (below_step (Z123) hb) ?_; clear cz HB; intro cz HB; (try clear hb)) | ((with_reducible refine gate_callee (f := 27) rfl ?_); refine goesL_ (some 60) rfl rfl Tryz.func27 (by kernel_rfl) rfl #[.slice (some ⟨go25, 0, none⟩) sL.length co31, .int .i64 a3] rfl (by (try simp only [List.map_toArray, List.map_cons, List.map_nil]); first | done | (rw [show sL.length = bD.length from (Kd.R_reads' cz.out).1.symm] <;> rfl) | rfl | (simp only [List.length_drop, List.length_take]; rfl)) ?_; (with_reducible refine (impl_wayOfHead.calls lB _ _ sL a3 pv _ ?_ ?_ gW.out).mono ?_); exact (Z5 cz); exact (by rw [show sL.length = bD.length from (Kd.R_reads' cz.out).1.symm]; exact (Kd.R_reads' cz.out).2.1); rintro e qO ⟨rfl, hb⟩; refine ⟨_, rfl, ?_⟩; refine k2_ (Ya_ cz) (below_step (Z2) hb) ?_; clear cz HB; intro cz HB; (try clear hb)))
       go_ret2
       exact ⟨Z12, Z2⟩
      rw [if_neg c24] at H
      exact absurd H (by simp)
     rw [if_neg c23] at H
     exact absurd H (by simp)
    rw [if_neg c22] at H
    exact absurd H (by simp)
   rw [if_neg c21] at H
   exact absurd H (by simp)

/-! ### spec_shStep: function 61 -/
def spec_shStep.f (a0 : Int) : Option (Bool) := (spec_l1In.f a0 0 1999).bind fun rB => (some rB)
set_option maxHeartbeats 8000000 in
set_option maxRecDepth 100000 in
theorem spec_shStep.calls (a0 : Int) (r : Bool) (w : World) (h : spec_shStep.f a0 = some r) :
  Calls Tryz.prog 61 #[.int .i64 a0] w fun e w' => e = .returned (.bool r) ∧ Drawn0 w w' := by
 have H : ((spec_l1In.f a0 0 1999).bind fun rB => (some rB)) = some r := h
 clear h
 replace H := Option.bind_eq_some_iff.mp H
 obtain ⟨rB, cK, H⟩ := H
 replace H : (some rB) = some r := H
 have A2 := Aside0.mk cK
 clear cK
 obtain rfl := Option.some.inj H
 go_enter Tryz.func61, Tryz.ntmps61
 go_wp2_with (first | ((with_reducible refine gate_callee (f := 30) rfl ?_); refine gl_ 4 Tryz.func30 #[.int .i64 a0, .int .i64 0, .int .i64 1999] ?_; (with_reducible refine (spec_l1In.calls a0 0 1999 rB _ A2.out).mono ?_); rintro e w' ⟨rfl, ⟨nd, rfl⟩⟩; refine ⟨_, rfl, ?_⟩))
 go_ret
 exact ⟨Z16, Z44⟩

/-! ### spec_puStroke: function 46 -/
def spec_puStroke.f (a0_0 : Int) (a0_1 : Int) : Option (Bool) := (spec_l1In.f a0_0 0 19).bind fun sO => (if sO = true then ((spec_shStep.f a0_1).bind fun rC => (some rC)) else (some false))
set_option maxHeartbeats 8000000 in
set_option maxRecDepth 100000 in
theorem spec_puStroke.calls (a0_0 : Int) (a0_1 : Int) (r : Bool) (w : World) (h : spec_puStroke.f a0_0 a0_1 = some r) :
  Calls Tryz.prog 46 #[.agg #[.int .i64 a0_0, .int .i64 a0_1]] w fun e w' => e = .returned (.bool r) ∧ Below w.heap.size w w' := by
 have hu30 := Tryz.underlying30
 have HB := Aside0.mk (Below.refl w.heap.size w)
 have H : ((spec_l1In.f a0_0 0 19).bind fun sO => (if sO = true then ((spec_shStep.f a0_1).bind fun rC => (some rC)) else (some false))) = some r := h
 clear h
 replace H := Option.bind_eq_some_iff.mp H
 obtain ⟨sO, cK, H⟩ := H
 (try dsimp only at H)
 have A2 := Aside0.mk cK
 clear cK
 by_cases c3 : sO = true
 ·subst c3
  rw [if_pos rfl] at H
  replace H := Option.bind_eq_some_iff.mp H
  obtain ⟨rC, fW, H⟩ := H
  replace H : (some rC) = some r := H
  have A4 := Aside0.mk fW
  clear fW
  obtain rfl := Option.some.inj H
  go_enter Tryz.func46, Tryz.ntmps46
  go_wp2_with (first | ((with_reducible refine gate_dst (N := 1) rfl ?_); refine bv_ 1 30 #[.int .i64 a0_0, .int .i64 a0_1] ?_; intro nf hg w5 hbox hb; refine k4_ (below_step (Z2) hb) (hbox) ((Z38 : w.heap.size ≤ nf)) ((Z38 : w.heap.size ≤ nf)) ?_; clear HB; intro HB sP GW481 wC; clear hb hbox hg; obtain ⟨me, mf, px, mg⟩ := bx2_ (w := w5) sP.out) | ((with_reducible refine gate_callee (f := 30) rfl ?_); refine gl_ 5 Tryz.func30 #[.int .i64 a0_0, .int .i64 0, .int .i64 19] ?_; (with_reducible refine (spec_l1In.calls a0_0 0 19 true _ A2.out).mono ?_); rintro e w' ⟨rfl, ⟨nd, rfl⟩⟩; refine ⟨_, rfl, ?_⟩) | (go_at_call 61; (with_reducible refine (spec_shStep.calls a0_1 rC _ A4.out).mono ?_); rintro e w' ⟨rfl, ⟨nd, rfl⟩⟩))
  go_ret
  exact ⟨Z12, Z136⟩
 replace c3 := Bool.eq_false_iff.mpr c3
 subst c3
 rw [if_neg (show ¬ (false = true) by decide)] at H
 obtain rfl := Option.some.inj H
 go_enter Tryz.func46, Tryz.ntmps46
 go_wp2_with (first | ((with_reducible refine gate_dst (N := 1) rfl ?_); refine bv_ 1 30 #[.int .i64 a0_0, .int .i64 a0_1] ?_; intro nf hg w7 hbox hb; refine k4_ (below_step (Z2) hb) (hbox) ((Z38 : w.heap.size ≤ nf)) ((Z38 : w.heap.size ≤ nf)) ?_; clear HB; intro HB sP GW481 wC; clear hb hbox hg; obtain ⟨jt, ju, mh, jv⟩ := bx2_ (w := w7) sP.out) | ((with_reducible refine gate_callee (f := 30) rfl ?_); refine gl_ 5 Tryz.func30 #[.int .i64 a0_0, .int .i64 0, .int .i64 19] ?_; (with_reducible refine (spec_l1In.calls a0_0 0 19 false _ A2.out).mono ?_); rintro e w' ⟨rfl, ⟨nd, rfl⟩⟩; refine ⟨_, rfl, ?_⟩))
 go_ret
 exact ⟨Z12, Z136⟩

/-! ### spec_puGood: function 28 -/
def spec_puGood.l0 : Nat → List (S30) → List (S30) → Int → Int → Option (Bool)
 | 0, _, _, _, _ => none
 | k + 1, x0, x5, x6, x7 => if x7 < x6 then (if 0 ≤ x7 then (if x7 < (x5.length : Int) then ((spec_puStroke.f ((rd_T30 x5 x7).f0) ((rd_T30 x5 x7).f1)).bind fun yq => (if yq = true then (spec_puGood.l0 k x0 x5 x6 (wrap64 (x7 + 1))) else (some false))) else (none)) else (none)) else (some (decide ((x0.length : Int) ≤ 200)))
def spec_puGood.f (k : Nat) (l0 : List (S30)) : Option (Bool) := spec_puGood.l0 k l0 l0 (l0.length : Int) 0
theorem spec_puGood.mono_l : ∀ k, (∀ y0 y1 y2 y3, LeO (spec_puGood.l0 k y0 y1 y2 y3) (spec_puGood.l0 (k + 1) y0 y1 y2 y3))
 | 0 => fun _ _ _ _ r h => by simp [spec_puGood.l0] at h
 | k + 1 => by
  have ih0 := spec_puGood.mono_l k
  ·intro y0 y1 y2 y3
   unfold spec_puGood.l0
   exact mo10_
theorem spec_puGood.mono : ∀ a0 k, LeO (spec_puGood.f k a0) (spec_puGood.f (k + 1) a0) := by
 intro a0 k
 have ih0 := spec_puGood.mono_l k
 unfold spec_puGood.f
 exact mo10_
set_option maxHeartbeats 8000000 in
set_option maxRecDepth 100000 in
theorem spec_puGood.calls (k : Nat) (A0 : Option Addr) (c0 : Nat) (l0 : List (S30)) (r : Bool) (w : World) (hr0 : Kd.C k30 w A0 l0.length l0) (hc0 : l0.length ≤ c0) (h : spec_puGood.f k l0 = some r) :
  Calls Tryz.prog 28 #[.slice A0 l0.length c0] w fun e w' => e = .returned (.bool r) ∧ Below w.heap.size w w' := by
 have hu30 := Tryz.underlying30
 have HR0 := Aside0.mk hr0
 have HC0 := Aside0.mk hc0
 clear hr0 hc0
 have HB := Aside0.mk (Below.refl w.heap.size w)
 have H : (spec_puGood.l0 k l0 l0 (l0.length : Int) 0) = some r := h
 clear h
 have H' := Aside0.mk H
 clear H
 go_enter Tryz.func28, Tryz.ntmps28
 go_wp2
 go_loopg [7] k (fun kq v7 w' => ∃ (bl : Int), v7 = .int .i64 bl ∧ Aside0 (spec_puGood.l0 kq l0 l0 (l0.length : Int) bl = some r) ∧ Aside0 (kq ≤ k) ∧ Aside0 (Below w.heap.size w w'))
 case atStart => exact ⟨(0), (Z16), H', ⟨Nat.le_refl _⟩, ⟨Z2⟩⟩
 case round =>
  clear H'
  obtain ⟨bl, rfl, HA, HK1, HB⟩ := hrel
  cases gk with
  | zero => exact absurd HA.out (by simp [spec_puGood.l0])
  | succ k1 =>
   have H := HA.out
   clear HA
   simp only [spec_puGood.l0] at H
   by_cases c2 : bl < (l0.length : Int)
   ·rw [if_pos c2] at H
    have fi : decide (bl < (l0.length : Int)) = true := decide_eq_true c2
    clear c2
    by_cases c3 : 0 ≤ bl
    ·rw [if_pos c3] at H
     have dj : decide (0 ≤ bl) = true := decide_eq_true c3
     clear c3
     by_cases c4 : bl < (l0.length : Int)
     ·rw [if_pos c4] at H
      have fj : decide (bl < (l0.length : Int)) = true := decide_eq_true c4
      clear c4
      replace H := Option.bind_eq_some_iff.mp H
      obtain ⟨yq, fM, H⟩ := H
      (try dsimp only at H)
      have A5 := Aside0.mk fM
      clear fM
      by_cases c6 : yq = true
      ·subst c6
       rw [if_pos rfl] at H
       have H' := Aside0.mk H
       clear H
       have pz : 0 ≤ (bl : Int) := of_decide_eq_true (Z4)
       have pA : bl < (l0.length : Int) := of_decide_eq_true (Z4)
       obtain ⟨ad484, e484, fk, fl⟩ := at_T30 HR0.out bl pz pA
       cases e484
       replace fk := (HB.out.cell (World.block_lt_of_cell? w _ fk)).trans fk
       replace fl := (HB.out.cell (World.block_lt_of_cell? w _ fl)).trans fl
       replace pz := eq_true pz
       replace pA := eq_true pA
       go_wp2_with (first | ((with_reducible refine gate_dst (N := 4) rfl ?_); refine bv_ 4 30 #[.int .i64 0, .int .i64 0] ?_; intro jw hg w7 hbox hb; refine k4_ (below_step (Z2) hb) (hbox) ((Z38 : w.heap.size ≤ jw)) ((Z38 : w.heap.size ≤ jw)) ?_; clear HB; intro HB iD GW485 wF; clear hb hbox hg; obtain ⟨jt, ju, mh, jv⟩ := bx2_ (w := w7) iD.out) | ((with_reducible refine gate_callee (f := 46) rfl ?_); refine gl_ 12 Tryz.func46 #[.agg #[.int .i64 ((rd_T30 l0 bl).f0), .int .i64 ((rd_T30 l0 bl).f1)]] ?_; (with_reducible refine (spec_puStroke.calls ((rd_T30 l0 bl).f0) ((rd_T30 l0 bl).f1) true _ A5.out).mono ?_); rintro e w9 ⟨rfl, hb⟩; refine ⟨_, rfl, ?_⟩; refine k2_ (blk_below (g := jw) (o := .cells #[.int .i64 ((rd_T30 l0 bl).f0), .int .i64 ((rd_T30 l0 bl).f1)] 30 (0, 0)) (Z83) hb) (below_step (Z79) hb) ?_; clear iD HB; intro iD HB; (try clear hb)))
       go_roundg k1
       case measure => have := HK1.out; omega
       case rel => exact ⟨(wrap64 (bl + 1)), (Z16), H', ⟨Z76 HK1⟩, ⟨Z79⟩⟩
      replace c6 := Bool.eq_false_iff.mpr c6
      subst c6
      rw [if_neg (show ¬ (false = true) by decide)] at H
      obtain rfl := Option.some.inj H
      have pz : 0 ≤ (bl : Int) := of_decide_eq_true (Z4)
      have pA : bl < (l0.length : Int) := of_decide_eq_true (Z4)
      obtain ⟨ad484, e484, fk, fl⟩ := at_T30 HR0.out bl pz pA
      cases e484
      replace fk := (HB.out.cell (World.block_lt_of_cell? w _ fk)).trans fk
      replace fl := (HB.out.cell (World.block_lt_of_cell? w _ fl)).trans fl
      replace pz := eq_true pz
      replace pA := eq_true pA
      go_wp2_with (first | ((with_reducible refine gate_dst (N := 4) rfl ?_); refine bv_ 4 30 #[.int .i64 0, .int .i64 0] ?_; intro jw hg ng hbox hb; refine k4_ (below_step (Z2) hb) (hbox) ((Z38 : w.heap.size ≤ jw)) ((Z38 : w.heap.size ≤ jw)) ?_; clear HB; intro HB iD GW485 wF; clear hb hbox hg; obtain ⟨i9, mi, ja, mj⟩ := bx2_ (w := ng) iD.out) | ((with_reducible refine gate_callee (f := 46) rfl ?_); refine gl_ 12 Tryz.func46 #[.agg #[.int .i64 ((rd_T30 l0 bl).f0), .int .i64 ((rd_T30 l0 bl).f1)]] ?_; (with_reducible refine (spec_puStroke.calls ((rd_T30 l0 bl).f0) ((rd_T30 l0 bl).f1) false _ A5.out).mono ?_); rintro e vy ⟨rfl, hb⟩; refine ⟨_, rfl, ?_⟩; refine k2_ (blk_below (g := jw) (o := .cells #[.int .i64 ((rd_T30 l0 bl).f0), .int .i64 ((rd_T30 l0 bl).f1)] 30 (0, 0)) (Z83) hb) (below_step (Z79) hb) ?_; clear iD HB; intro iD HB; (try clear hb)))
      go_ret
      exact ⟨Z12, Z79⟩
     rw [if_neg c4] at H
     exact absurd H (by simp)
    rw [if_neg c3] at H
    exact absurd H (by simp)
   rw [if_neg c2] at H
   have fi : decide (bl < (l0.length : Int)) = false := decide_eq_false c2
   clear c2
   obtain rfl := Option.some.inj H
   go_wp2
   go_ret
   exact ⟨Z12, Z2⟩

/-! ### spec_puAcross: function 29 -/
def spec_puAcross.f (a0 : Int) : Option (Bool) := (spec_l1In.f a0 1 50).bind fun rD => (some rD)
set_option maxHeartbeats 8000000 in
set_option maxRecDepth 100000 in
theorem spec_puAcross.calls (a0 : Int) (r : Bool) (w : World) (h : spec_puAcross.f a0 = some r) :
  Calls Tryz.prog 29 #[.int .i64 a0] w fun e w' => e = .returned (.bool r) ∧ Drawn0 w w' := by
 have H : ((spec_l1In.f a0 1 50).bind fun rD => (some rD)) = some r := h
 clear h
 replace H := Option.bind_eq_some_iff.mp H
 obtain ⟨rD, cK, H⟩ := H
 replace H : (some rD) = some r := H
 have A2 := Aside0.mk cK
 clear cK
 obtain rfl := Option.some.inj H
 go_enter Tryz.func29, Tryz.ntmps29
 go_wp2_with (first | ((with_reducible refine gate_callee (f := 30) rfl ?_); refine gl_ 4 Tryz.func30 #[.int .i64 a0, .int .i64 1, .int .i64 50] ?_; (with_reducible refine (spec_l1In.calls a0 1 50 rD _ A2.out).mono ?_); rintro e w' ⟨rfl, ⟨nd, rfl⟩⟩; refine ⟨_, rfl, ?_⟩))
 go_ret
 exact ⟨Z16, Z44⟩

/-! ### spec_l1Most: function 78 -/
def spec_l1Most.f (a0 : Int) (a1 : Int) : Option (Int) := if a0 > a1 then (some a0) else (some a1)
set_option maxHeartbeats 8000000 in
set_option maxRecDepth 100000 in
theorem spec_l1Most.calls (a0 : Int) (a1 : Int) (r : Int) (w : World) (h : spec_l1Most.f a0 a1 = some r) :
  Calls Tryz.prog 78 #[.int .i64 a0, .int .i64 a1] w fun e w' => e = .returned (.int .i64 r) ∧ Drawn0 w w' := by
 have H : (if a0 > a1 then (some a0) else (some a1)) = some r := h
 clear h
 by_cases c3 : a0 > a1
 ·rw [if_pos c3] at H
  have dj : decide (a1 < a0) = true := decide_eq_true c3
  clear c3
  obtain rfl := Option.some.inj H
  go_enter Tryz.func78, Tryz.ntmps78
  go_wp2
  go_ret
  exact ⟨Z16, Z44⟩
 rw [if_neg c3] at H
 have dj : decide (a1 < a0) = false := decide_eq_false c3
 clear c3
 obtain rfl := Option.some.inj H
 go_enter Tryz.func78, Tryz.ntmps78
 go_wp2
 go_ret
 exact ⟨Z16, Z44⟩

/-! ### spec_l1Abs: function 62 -/
def spec_l1Abs.f (a0 : Int) : Option (Int) := (spec_l1Most.f a0 (wrap64 (-a0))).bind fun rE => (some rE)
set_option maxHeartbeats 8000000 in
set_option maxRecDepth 100000 in
theorem spec_l1Abs.calls (a0 : Int) (r : Int) (w : World) (h : spec_l1Abs.f a0 = some r) :
  Calls Tryz.prog 62 #[.int .i64 a0] w fun e w' => e = .returned (.int .i64 r) ∧ Drawn0 w w' := by
 have H : ((spec_l1Most.f a0 (wrap64 (-a0))).bind fun rE => (some rE)) = some r := h
 clear h
 replace H := Option.bind_eq_some_iff.mp H
 obtain ⟨rE, cK, H⟩ := H
 replace H : (some rE) = some r := H
 have A2 := Aside0.mk cK
 clear cK
 obtain rfl := Option.some.inj H
 go_enter Tryz.func62, Tryz.ntmps62
 go_wp2_with (first | ((with_reducible refine gate_callee (f := 78) rfl ?_); refine gl_ 6 Tryz.func78 #[.int .i64 a0, .int .i64 (wrap64 (-a0))] ?_; (with_reducible refine (spec_l1Most.calls a0 (wrap64 (-a0)) rE _ A2.out).mono ?_); rintro e w' ⟨rfl, ⟨nd, rfl⟩⟩; refine ⟨_, rfl, ?_⟩))
 go_ret
 exact ⟨Z16, Z44⟩

/-! ### spec_puWay: function 47 -/
def spec_puWay.f (a0_0 : Int) (a0_1 : Int) (a1_0 : Int) (a1_1 : Int) (a2 : Int) : Option (Int) := (spec_l1Abs.f (wrap64 (a0_1 - a1_1))).bind fun pB => ((spec_l1Abs.f (wrap64 (a0_0 - a1_0))).bind fun pC => (some (wrap64 (pB + (wrap64 (a2 * pC))))))
set_option maxHeartbeats 8000000 in
set_option maxRecDepth 100000 in
theorem spec_puWay.calls (a0_0 : Int) (a0_1 : Int) (a1_0 : Int) (a1_1 : Int) (a2 : Int) (r : Int) (w : World) (h : spec_puWay.f a0_0 a0_1 a1_0 a1_1 a2 = some r) :
  Calls Tryz.prog 47 #[.agg #[.int .i64 a0_0, .int .i64 a0_1], .agg #[.int .i64 a1_0, .int .i64 a1_1], .int .i64 a2] w fun e w' => e = .returned (.int .i64 r) ∧ Below w.heap.size w w' := by
 have hu30 := Tryz.underlying30
 have HB := Aside0.mk (Below.refl w.heap.size w)
 have H : ((spec_l1Abs.f (wrap64 (a0_1 - a1_1))).bind fun pB => ((spec_l1Abs.f (wrap64 (a0_0 - a1_0))).bind fun pC => (some (wrap64 (pB + (wrap64 (a2 * pC))))))) = some r := h
 clear h
 replace H := Option.bind_eq_some_iff.mp H
 obtain ⟨pB, fW, H⟩ := H
 (try dsimp only at H)
 have A4 := Aside0.mk fW
 clear fW
 replace H := Option.bind_eq_some_iff.mp H
 obtain ⟨pC, fM, H⟩ := H
 (try dsimp only at H)
 have A5 := Aside0.mk fM
 clear fM
 obtain rfl := Option.some.inj H
 go_enter Tryz.func47, Tryz.ntmps47
 go_wp2_with (first | ((with_reducible refine gate_dst (N := 3) rfl ?_); refine bv_ 3 30 #[.int .i64 a0_0, .int .i64 a0_1] ?_; intro d6 hg w6 hbox hb; refine k4_ (below_step (Z2) hb) (hbox) ((Z38 : w.heap.size ≤ d6)) ((Z38 : w.heap.size ≤ d6)) ?_; clear HB; intro HB d7 wK qI; clear hb hbox hg) | ((with_reducible refine gate_dst (N := 4) rfl ?_); refine bv_ 4 30 #[.int .i64 a1_0, .int .i64 a1_1] ?_; intro eE hg w7 hbox hb; refine k7_ (Ye_ d7) (below_step (Z54) hb) (hbox) ((Z149 : w.heap.size ≤ eE)) ((Z149 : w.heap.size ≤ eE)) ((Z127 : d6 ≠ eE)) ((Z128 : eE ≠ d6)) ?_; clear d7 HB; intro d7 HB nh wL sQ e3 e4; clear hb hbox hg; have AJ := e3.out; have AK := e4.out; obtain ⟨ml, mm, pD, mn⟩ := bx2_ (w := w7) d7.out; obtain ⟨mo, mq, mr, ms⟩ := bx2_ (w := w7) nh.out) | (go_at_call 62; (with_reducible refine (spec_l1Abs.calls (wrap64 (a0_1 - a1_1)) pB _ A4.out).mono ?_); rintro e w' ⟨rfl, ⟨nd, rfl⟩⟩; (try first | exact ⟨rfl, _, World.drewN_drewN _ _ _⟩ | exact ⟨rfl, _, Eq.trans (World.drewN_drewN _ _ _) (congrArg (World.drewN _) (Nat.add_assoc _ _ _))⟩)) | (go_at_call 62; (with_reducible refine (spec_l1Abs.calls (wrap64 (a0_0 - a1_0)) pC _ A5.out).mono ?_); rintro e w' ⟨rfl, ⟨nd, rfl⟩⟩; (try first | exact ⟨rfl, _, World.drewN_drewN _ _ _⟩ | exact ⟨rfl, _, Eq.trans (World.drewN_drewN _ _ _) (congrArg (World.drewN _) (Nat.add_assoc _ _ _))⟩)))
 repeat (go_quiet (first | ((with_reducible refine gate_dst (N := 3) rfl ?_); refine bv_ 3 30 #[.int .i64 a0_0, .int .i64 a0_1] ?_; intro d6 hg w6 hbox hb; refine k4_ (below_step (Z2) hb) (hbox) ((Z38 : w.heap.size ≤ d6)) ((Z38 : w.heap.size ≤ d6)) ?_; clear HB; intro HB d7 wK qI; clear hb hbox hg) | ((with_reducible refine gate_dst (N := 4) rfl ?_); refine bv_ 4 30 #[.int .i64 a1_0, .int .i64 a1_1] ?_; intro eE hg w7 hbox hb; refine k7_ (Ye_ d7) (below_step (Z54) hb) (hbox) ((Z149 : w.heap.size ≤ eE)) ((Z149 : w.heap.size ≤ eE)) ((Z127 : d6 ≠ eE)) ((Z128 : eE ≠ d6)) ?_; clear d7 HB; intro d7 HB nh wL sQ e3 e4; clear hb hbox hg; have AJ := e3.out; have AK := e4.out; obtain ⟨ml, mm, pD, mn⟩ := bx2_ (w := w7) d7.out; obtain ⟨mo, mq, mr, ms⟩ := bx2_ (w := w7) nh.out) | (go_at_call 62; (with_reducible refine (spec_l1Abs.calls (wrap64 (a0_1 - a1_1)) pB _ A4.out).mono ?_); rintro e w' ⟨rfl, ⟨nd, rfl⟩⟩; (try first | exact ⟨rfl, _, World.drewN_drewN _ _ _⟩ | exact ⟨rfl, _, Eq.trans (World.drewN_drewN _ _ _) (congrArg (World.drewN _) (Nat.add_assoc _ _ _))⟩)) | (go_at_call 62; (with_reducible refine (spec_l1Abs.calls (wrap64 (a0_0 - a1_0)) pC _ A5.out).mono ?_); rintro e w' ⟨rfl, ⟨nd, rfl⟩⟩; (try first | exact ⟨rfl, _, World.drewN_drewN _ _ _⟩ | exact ⟨rfl, _, Eq.trans (World.drewN_drewN _ _ _) (congrArg (World.drewN _) (Nat.add_assoc _ _ _))⟩))); try go_wp2_with (first | ((with_reducible refine gate_dst (N := 3) rfl ?_); refine bv_ 3 30 #[.int .i64 a0_0, .int .i64 a0_1] ?_; intro d6 hg w6 hbox hb; refine k4_ (below_step (Z2) hb) (hbox) ((Z38 : w.heap.size ≤ d6)) ((Z38 : w.heap.size ≤ d6)) ?_; clear HB; intro HB d7 wK qI; clear hb hbox hg) | ((with_reducible refine gate_dst (N := 4) rfl ?_); refine bv_ 4 30 #[.int .i64 a1_0, .int .i64 a1_1] ?_; intro eE hg w7 hbox hb; refine k7_ (Ye_ d7) (below_step (Z54) hb) (hbox) ((Z149 : w.heap.size ≤ eE)) ((Z149 : w.heap.size ≤ eE)) ((Z127 : d6 ≠ eE)) ((Z128 : eE ≠ d6)) ?_; clear d7 HB; intro d7 HB nh wL sQ e3 e4; clear hb hbox hg; have AJ := e3.out; have AK := e4.out; obtain ⟨ml, mm, pD, mn⟩ := bx2_ (w := w7) d7.out; obtain ⟨mo, mq, mr, ms⟩ := bx2_ (w := w7) nh.out) | (go_at_call 62; (with_reducible refine (spec_l1Abs.calls (wrap64 (a0_1 - a1_1)) pB _ A4.out).mono ?_); rintro e w' ⟨rfl, ⟨nd, rfl⟩⟩; (try first | exact ⟨rfl, _, World.drewN_drewN _ _ _⟩ | exact ⟨rfl, _, Eq.trans (World.drewN_drewN _ _ _) (congrArg (World.drewN _) (Nat.add_assoc _ _ _))⟩)) | (go_at_call 62; (with_reducible refine (spec_l1Abs.calls (wrap64 (a0_0 - a1_0)) pC _ A5.out).mono ?_); rintro e w' ⟨rfl, ⟨nd, rfl⟩⟩; (try first | exact ⟨rfl, _, World.drewN_drewN _ _ _⟩ | exact ⟨rfl, _, Eq.trans (World.drewN_drewN _ _ _) (congrArg (World.drewN _) (Nat.add_assoc _ _ _))⟩))))
 go_ret
 exact ⟨Z12, by repeat (first | (with_reducible first | exact HB.out | apply below_alloc | apply pw_below_drewN | apply below_drew1 | refine below_set ?_ qI.out | refine below_set ?_ sQ.out) | exact HB.out)⟩

end Go.Proofs.YtmnnmddfmmaohaaGreat.PFnHead
