-- written by a program of this session: the kit's print, with outer functions of the session's own (wip/ext)
import Derived.Test.YtmnnmddfmmaohaaGreatPFnHeadx0
import Derived.Test.YtmnnmddfmmaohaaGreatPFnHeadx2
import Derived.Test.YtmnnmddfmmaohaaGreatPFnHeadx8
import Derived.Test.YtmnnmddfmmaohaaGreatPFnHeadx10
import Derived.Test.YtmnnmddfmmaohaaGreatPFnHeadx11
import Derived.Test.YtmnnmddfmmaohaaGreatPFnHeadx12
namespace Go.Proofs.YtmnnmddfmmaohaaGreat.PFnHead
open Go.RowKit Go.Proofs.YtmnnmddfmmaohaaGreatW.PrintWords Go.Proofs.YtmnnmddfmmaohaaGreatW.PrintLast Go.Proofs.YtmnnmddfmmaohaaGreatW.PrintMore
attribute [local go_sem] max2_int min2_int max_two min_two max_three min_three max_four min_four   -- for this text's walks alone
set_option linter.unusedVariables false
set_option linter.unusedSimpArgs false
theorem mo13_ {p : Prop} (h : p := by repeat' first | (with_reducible first | apply ih0 | apply ih0 | apply ih1 | apply ih1 | apply spec_DrawAreStrokes.mono | apply spec_DrawAreStrokes.mono | apply spec_l1Cur_strokes.mono | apply spec_l1Cur_strokes.mono | apply spec_puGood.mono | apply spec_puGood.mono | apply spec_puSum.mono | apply spec_puSum.mono | exact LeO.refl _ | exact LeO.none _ | refine LeO.ite ?_ ?_ | refine LeO.bind ?_ (fun _ => ?_)) | exact LeO.none _ | refine LeO.ite ?_ ?_ | refine LeO.bind ?_ (fun _ => ?_)) : p := h

/-! ### spec_WearOf: function 13 -/
mutual
def spec_WearOf.j0 : Nat → List (S30) → Int → Bool → Option (List Int × Bool)
 | 0, _, _, _ => none
 | k + 1, x0, x1, x16 => if x16 = true then (some (([] : List Int), false)) else (if 0 ≤ x1 then (if (x1 : Int).toNat ≤ 35184372088832 then (spec_WearOf.l0 k x1 (List.replicate (x1 : Int).toNat 0) x0 (x0.length : Int) 0) else (none)) else (none))
def spec_WearOf.l0 : Nat → Int → List Int → List (S30) → Int → Int → Option (List Int × Bool)
 | 0, _, _, _, _, _ => none
 | k + 1, x1, x6, x19, x20, x21 => if x21 < x20 then (if 0 ≤ x21 then (if x21 < (x19.length : Int) then (if x1 = 0 then (none) else (if 0 ≤ (Int.tmod ((rd_T30 x19 x21).f0) x1) then (if (Int.tmod ((rd_T30 x19 x21).f0) x1) < (x6.length : Int) then (spec_WearOf.l0 k x1 (x6.set ((Int.tmod ((rd_T30 x19 x21).f0) x1) : Int).toNat (wrap64 ((rd x6 (Int.tmod ((rd_T30 x19 x21).f0) x1)) + 1))) x19 x20 (wrap64 (x21 + 1))) else (none)) else (none))) else (none)) else (none)) else (some (x6, true))
end
def spec_WearOf.f (k : Nat) (l0 : List (S30)) (a1 : Int) : Option (List Int × Bool) := (spec_puGood.f k l0).bind fun tj => (if tj = true then ((spec_puTools.f a1).bind fun rO => (spec_WearOf.j0 k l0 a1 (!rO))) else (spec_WearOf.j0 k l0 a1 true))
theorem spec_WearOf.mono_l : ∀ k, (∀ y0 y1 y2, LeO (spec_WearOf.j0 k y0 y1 y2) (spec_WearOf.j0 (k + 1) y0 y1 y2)) ∧ (∀ y0 y1 y2 y3 y4, LeO (spec_WearOf.l0 k y0 y1 y2 y3 y4) (spec_WearOf.l0 (k + 1) y0 y1 y2 y3 y4))
 | 0 => ⟨fun _ _ _ r h => by simp [spec_WearOf.j0] at h, fun _ _ _ _ _ r h => by simp [spec_WearOf.l0] at h⟩
 | k + 1 => by
  obtain ⟨ih0, ih1⟩ := spec_WearOf.mono_l k
  refine ⟨?_, ?_⟩
  ·intro y0 y1 y2
   unfold spec_WearOf.j0
   exact mo13_
  intro y0 y1 y2 y3 y4
  unfold spec_WearOf.l0
  exact mo13_
theorem spec_WearOf.mono : ∀ a0 a1 k, LeO (spec_WearOf.f k a0 a1) (spec_WearOf.f (k + 1) a0 a1) := by
 intro a0 a1 k
 obtain ⟨ih0, ih1⟩ := spec_WearOf.mono_l k
 unfold spec_WearOf.f
 exact mo13_
set_option maxHeartbeats 8000000 in
set_option maxRecDepth 100000 in
theorem spec_WearOf.calls (k : Nat) (A0 : Option Addr) (c0 : Nat) (l0 : List (S30)) (a1 : Int) (r1 : List Int) (r2 : Bool) (w : World) (hr0 : Kd.C k30 w A0 l0.length l0) (hc0 : l0.length ≤ c0) (h : spec_WearOf.f k l0 a1 = some (r1, r2)) :
  Calls Tryz.prog 13 #[.slice A0 l0.length c0, .int .i64 a1] w fun e w' => ∃ v0_ : Value, e = .returned (.tuple #[v0_, .bool r2]) ∧ Kd.R (Kd.int .i64) 3 w' w.heap.size (fun _ => True) v0_ r1 ∧ Below w.heap.size w w' := by
 have hu30 := Tryz.underlying30
 have HR0 := Aside0.mk hr0
 have HC0 := Aside0.mk hc0
 clear hr0 hc0
 have HB := Aside0.mk (Below.refl w.heap.size w)
 have H : ((spec_puGood.f k l0).bind fun tj => (if tj = true then ((spec_puTools.f a1).bind fun rO => (spec_WearOf.j0 k l0 a1 (!rO))) else (spec_WearOf.j0 k l0 a1 true))) = some (r1, r2) := h
 clear h
 have HC3 := Aside0.mk H
 clear H
 go_enter Tryz.func13, Tryz.ntmps13
 go_upto_region 1 with (fail)
 go_cut [16] (fun Dv wc => ∃ (kq : Nat) (g6 : Bool), Dv = .bool g6 ∧ Aside0 (spec_WearOf.j0 kq l0 a1 g6 = some (r1, r2)) ∧ Aside0 (kq ≤ k) ∧ Aside0 (Below w.heap.size w wc))
 case first =>
  have H := HC3.out
  clear HC3
  replace H := Option.bind_eq_some_iff.mp H
  obtain ⟨tj, fW, H⟩ := H
  (try dsimp only at H)
  have A4 := Aside0.mk fW
  clear fW
  by_cases c5 : tj = true
  ·subst c5
   rw [if_pos rfl] at H
   replace H := Option.bind_eq_some_iff.mp H
   obtain ⟨rO, fV, H⟩ := H
   (try dsimp only at H)
   have A6 := Aside0.mk fV
   clear fV
   have H' := Aside0.mk H
   clear H
   go_wp2_with (first | ((with_reducible refine gate_callee (f := 28) rfl ?_); refine gl_ 10 Tryz.func28 #[.slice A0 l0.length c0] ?_; (with_reducible refine (spec_puGood.calls k _ _ l0 true _ ?_ ?_ A4.out).mono ?_); exact (Z15 HR0); exact HC0.out; rintro e w7 ⟨rfl, hb⟩; refine ⟨_, rfl, ?_⟩; refine k1_ (below_step (Z2) hb) ?_; clear HB; intro HB; (try clear hb)) | (go_at_call 34; (with_reducible refine (spec_puTools.calls a1 rO _ A6.out).mono ?_); rintro e w' ⟨rfl, ⟨nd, rfl⟩⟩))
   go_meet
   case rel => exact ⟨_, (!rO), (Z16), H', ⟨Z68⟩, ⟨Z2⟩⟩
  replace c5 := Bool.eq_false_iff.mpr c5
  subst c5
  rw [if_neg (show ¬ (false = true) by decide)] at H
  have H' := Aside0.mk H
  clear H
  go_wp2_with (first | ((with_reducible refine gate_callee (f := 28) rfl ?_); refine gl_ 10 Tryz.func28 #[.slice A0 l0.length c0] ?_; (with_reducible refine (spec_puGood.calls k _ _ l0 false _ ?_ ?_ A4.out).mono ?_); exact (Z15 HR0); exact HC0.out; rintro e w8 ⟨rfl, hb⟩; refine ⟨_, rfl, ?_⟩; refine k1_ (below_step (Z2) hb) ?_; clear HB; intro HB; (try clear hb)))
  go_meet
  case rel => exact ⟨_, (true), (Z16), H', ⟨Z68⟩, ⟨Z2⟩⟩
 case rest =>
  clear HC3
  (try clear c1); (try clear c2); (try clear p2); (try clear c5)
  obtain ⟨kq, g6, rfl, HA, pF, HB⟩ := hcut
  cases kq with
  | zero => exact absurd HA.out (by simp [spec_WearOf.j0])
  | succ rL =>
   have H := HA.out
   clear HA
   simp only [spec_WearOf.j0] at H
   by_cases c9 : g6 = true
   ·subst c9
    rw [if_pos rfl] at H
    simp only [Option.some.injEq, Prod.mk.injEq] at H
    obtain ⟨rfl, rfl⟩ := H
    go_wp2
    go_ret2
    exact ⟨_, Z12, Z37, Z2⟩
   replace c9 := Bool.eq_false_iff.mpr c9
   subst c9
   rw [if_neg (show ¬ (false = true) by decide)] at H
   by_cases c10 : 0 ≤ a1
   ·rw [if_pos c10] at H
    have cg := eq_true c10
    have qS : decide (0 ≤ a1) = true := decide_eq_true c10
    clear c10
    by_cases c11 : (a1 : Int).toNat ≤ 35184372088832
    ·rw [if_pos c11] at H
     have jD := eq_true c11
     have tg : decide ((a1 : Int).toNat ≤ 35184372088832) = true := decide_eq_true c11
     clear c11
     obtain ⟨AX, nz⟩ : ∃ y_ : List Int, y_ = (List.replicate (a1 : Int).toNat 0) := ⟨_, rfl⟩
     replace H : (spec_WearOf.l0 rL a1 AX l0 (l0.length : Int) 0) = some (r1, r2) := by first | (rw [nz]; with_reducible exact H) | (have H2_ := (Option.bind_some _ _).symm.trans H; rw [nz]; with_reducible exact H2_) | (have H2_ := (Option.bind_some _ _).symm.trans H; with_reducible exact H2_) | with_reducible exact H | (rw [nz]; exact H) | exact H
     have wX := Aside0.mk nz
     clear nz
     have H' := Aside0.mk H
     clear H
     go_wp2_with (first | ((with_reducible refine gate_dst (N := 18) rfl ?_); refine Kd.R_make (Kd.int .i64) _ 3 rfl (N := 18) rfl 34 _ _ rfl a1 rfl rfl Tryz.underlying34 (.int .i64 0) 8 info3 rfl (by decide) (by omega) 0 (ok := fun _ => True) (okp := fun _ => True) rfl (fun _ hk => hk) trivial (of_decide_eq_true (Z4)) (Nat.le_trans (Nat.mul_le_mul_right _ (of_decide_eq_true (Z4) : a1.toNat ≤ 35184372088832)) (by omega)) (Below.refl _ _) (Nat.le_refl _) ?_; intro AY vy ho13 hb hg_ hnew_; clear hg_ hnew_; (first | rw [← wX.out] at ho13 | (simp only [Int.reduceToNat] at ho13; rw [← wX.out] at ho13)); refine k2_ (Kd.R_lower ho13 (below_size (Z2))) (below_step (Z2) hb) ?_; clear HB; intro HO562 HB; clear hb ho13))
     (try simp only [Act.put, List.setIfInBounds_toArray, List.set_cons_zero, List.set_cons_succ])
     go_loopg [21] rL (fun kq AW w' => ∃ (bK : List Int) (ah : Int), AW = .int .i64 ah ∧ Aside0 (spec_WearOf.l0 kq a1 bK l0 (l0.length : Int) ah = some (r1, r2)) ∧ Aside0 (kq ≤ rL) ∧ Aside0 (Kd.R (Kd.int .i64) 3 w' w.heap.size (fun _ => True) AY bK) ∧ Aside0 (Below w.heap.size w w'))
     case atStart => exact ⟨(AX), (0), (Z16), H', ⟨Nat.le_refl _⟩, ⟨Z1 HO562⟩, ⟨Z2⟩⟩
     case round =>
      clear H'
      (try clear c9); (try clear c10); (try clear cg); (try clear qS); (try clear c11); (try clear jD); (try clear tg); (try clear c13)
      obtain ⟨bK, ah, rfl, HA, HK2, cA, HB⟩ := hrel
      cases gk with
      | zero => exact absurd HA.out (by simp [spec_WearOf.l0])
      | succ k2 =>
       have H := HA.out
       clear HA
       simp only [spec_WearOf.l0] at H
       by_cases c14 : ah < (l0.length : Int)
       ·rw [if_pos c14] at H
        have gU : decide (ah < (l0.length : Int)) = true := decide_eq_true c14
        clear c14
        by_cases c15 : 0 ≤ ah
        ·rw [if_pos c15] at H
         have fO : decide (0 ≤ ah) = true := decide_eq_true c15
         clear c15
         by_cases c16 : ah < (l0.length : Int)
         ·rw [if_pos c16] at H
          have ej : decide (ah < (l0.length : Int)) = true := decide_eq_true c16
          clear c16
          by_cases c17 : a1 = 0
          ·rw [if_pos c17] at H
           exact absurd H (by simp)
          rw [if_neg c17] at H
          have lM : (a1 == 0) = false := beq_eq_false_iff_ne.mpr c17
          have qT : (a1 != 0) = true := bne_iff_ne.mpr c17
          obtain ⟨bW, hji18⟩ : ∃ j_ : Int, (Int.tmod ((rd_T30 l0 ah).f0) a1) = j_ := ⟨_, rfl⟩
          replace H : (if 0 ≤ (bW) then (if (bW) < (bK.length : Int) then (spec_WearOf.l0 k2 a1 (bK.set ((bW) : Int).toNat (wrap64 ((rd bK (bW)) + 1))) l0 (l0.length : Int) (wrap64 (ah + 1))) else (none)) else (none)) = some (r1, r2) := by first | (rw [hji18] at H; exact H) | (simp only [hji18] at H ⊢; exact H)
          by_cases c19 : 0 ≤ (bW)
          ·rw [if_pos c19] at H
           have jA : decide (0 ≤ (bW)) = true := decide_eq_true c19
           clear c19
           by_cases c20 : (bW) < (bK.length : Int)
           ·rw [if_pos c20] at H
            have ea : decide ((bW) < (bK.length : Int)) = true := decide_eq_true c20
            clear c20
            obtain ⟨yL, nA⟩ : ∃ y_ : List Int, y_ = (bK.set ((bW) : Int).toNat (wrap64 ((rd bK (bW)) + 1))) := ⟨_, rfl⟩
            replace H : (spec_WearOf.l0 k2 a1 yL l0 (l0.length : Int) (wrap64 (ah + 1))) = some (r1, r2) := by first | (rw [nA]; with_reducible exact H) | (have H2_ := (Option.bind_some _ _).symm.trans H; rw [nA]; with_reducible exact H2_) | (have H2_ := (Option.bind_some _ _).symm.trans H; with_reducible exact H2_) | with_reducible exact H | (rw [nA]; exact H) | exact H
            have Ny566 := Aside0.mk nA
            clear nA
            have H' := Aside0.mk H
            clear H
            have yM : 0 ≤ (ah : Int) := of_decide_eq_true (Z4)
            have yN : ah < (l0.length : Int) := of_decide_eq_true (Z4)
            obtain ⟨ad563, e563, mA, mB⟩ := at_T30 HR0.out ah yM yN
            cases e563
            replace mA := (HB.out.cell (World.block_lt_of_cell? w _ mA)).trans mA
            replace mB := (HB.out.cell (World.block_lt_of_cell? w _ mB)).trans mB
            replace yM := eq_true yM
            replace yN := eq_true yN
            go_wp2_with (first | ((with_reducible refine gate_dst (N := 8) rfl ?_); refine bv_ 8 30 #[.int .i64 0, .int .i64 0] ?_; intro iI hg vA hbox hb; refine k5_ (Ya_ cA) (below_step (Z2) hb) (hbox) ((Z38 : w.heap.size ≤ iI)) ((Z38 : w.heap.size ≤ iI)) ?_; clear cA HB; intro cA HB gG GW564 GE564; clear hb hbox hg; obtain ⟨hcz23_0, hcz23_1, hfz23_0, hfz23_1⟩ := bx2_ (w := vA) gG.out) | ((with_reducible refine gate_store (t := 30) (p := 8) rfl ?_); refine store_event (t := 30) (p := 8) (v := ?vo_w24) (w1 := ((vA.setCell ⟨iI, 0, none⟩ (.int .i64 ((rd_T30 l0 ah).f0))).setCell ⟨iI, 1, none⟩ (.int .i64 ((rd_T30 l0 ah).f1)))) ?hg ?ho ?hn ?hr ?_; (case ho => rfl); (case hg => rfl); (case hn => rfl); (case hr => exact Z29); intro jE hw; have n0_ : Aside0 (Kd.R (Kd.int .i64) 3 jE w.heap.size (fun _ => True) AY bK) := ⟨(by rw [hw]; exact (by (with_reducible repeat (first | apply Kd.R_alloc | apply Kd.R_drewN | apply Kd.R_drew)); exact Kd.R_mono (Kd.R_far (p := ⟨iI, 1, none⟩) (Kd.R_far (p := ⟨iI, 0, none⟩) (Kd.R_types cA.out gG.out (by decide)) (fun _ hk => hk.2) (.int .i64 ((rd_T30 l0 ah).f0))) (fun _ hk => hk.2) (.int .i64 ((rd_T30 l0 ah).f1))) (fun _ hk => trivial)))⟩; have n1_ : Aside0 (jE.heap[iI]? = some (.cells #[.int .i64 ((rd_T30 l0 ah).f0), .int .i64 ((rd_T30 l0 ah).f1)] 30 (0, 0))) := ⟨(by rw [hw]; exact (Z63 gG))⟩; have n2_ : Aside0 (Below w.heap.size w jE) := ⟨(by rw [hw]; exact Z138)⟩; clear hw; clear cA; clear gG; clear HB; have cA := n0_; have gG := n1_; have HB := n2_; clear n0_ n1_ n2_; obtain ⟨qU, qV, qW, qX⟩ := bx2_ (w := jE) gG.out; obtain ⟨Ao26, yH, yI⟩ := Kd.R_slice cA.out; subst yI; have yO : 0 ≤ ((bW) : Int) := of_decide_eq_true (Z4); have yP : (bW) < (bK.length : Int) := of_decide_eq_true (Z4); obtain ⟨ad565, e565, hx565_0⟩ := Kd.at_int (Kd.R_reads' cA.out).2.2 (bW) yO yP; cases e565; replace yO := eq_true yO; replace yP := eq_true yP; have wV : 0 ≤ ((bW) : Int) := of_decide_eq_true (Z4); have wW : ((bW) : Int) < ((bK.length : Int) : Int) := of_decide_eq_true (Z4); obtain ⟨go21, co21, th, ti, gl21, cl21, HG21⟩ := Kd.R_form cA.out (by omega); (first | cases th | (injection th with ea_ en_ ec_; (first | subst ea_ | (injection ea_ with ea_; subst ea_)); subst ec_; clear en_)); have GB21 := Aside0.mk ti; have GG21 := Aside0.mk HG21; clear ti gl21 HG21; (first | simp only [add_plain] at hx565_0 | skip); obtain ⟨hx21_0, hf21_0⟩ := Kd.R_celln 0 cA.out ((bW) : Int) wV wW; replace wV := eq_true wV; replace wW := eq_true wW; obtain ⟨hy27_, hz27_⟩ := Kd.R_celln 0 cA.out ((bW) : Int) (of_decide_eq_true (Z4)) (of_decide_eq_true (Z4)); have HP27 := Kd.R_putg cA.out ((bW) : Int) (wrap64 ((rd bK (bW)) + 1))) | ((with_reducible refine gate_store (t := 3) (p := 33) rfl ?_); refine store_event (t := 3) (p := 33) (v := ?vo_w28) (w1 := (jE.setCell ⟨go21, ((bW) : Int).toNat, none⟩ (.int .i64 (wrap64 ((rd bK (bW)) + 1))))) ?hg ?ho ?hn ?hr ?_; (case ho => rfl); (case hg => rfl); (case hn => rfl); (case hr => exact Z29); intro sv hw; have hg : jE.grownBy sv (some go21) := (by rw [hw]; exact HP27.2); have hp_ : Kd.R (Kd.int .i64) 3 sv w.heap.size (fun _ => True) (.slice (some ⟨go21, 0, none⟩) bK.length yH) yL := (by rw [hw, Ny566.out]; exact HP27.1); clear HP27; refine k3_ (hp_) (blk_grown (g := iI) (o := .cells #[.int .i64 ((rd_T30 l0 ah).f0), .int .i64 ((rd_T30 l0 ah).f1)] 30 (0, 0)) (Z6 gG) hg (Kd.R_ne cA.out gG.out (by decide))) ((by rw [hw]; exact below_set (HB.out) GB21.out : Below w.heap.size w sv)) ?_; clear cA gG HB; intro cA gG HB; clear hg hw hp_))
            go_roundg k2
            case measure => have := pF.out; have := HK2.out; omega
            case rel => exact ⟨(yL), (wrap64 (ah + 1)), (Z16), H', ⟨Z115 pF⟩, ⟨Z1 cA⟩, ⟨Z138⟩⟩
           rw [if_neg c20] at H
           exact absurd H (by simp)
          rw [if_neg c19] at H
          exact absurd H (by simp)
         rw [if_neg c16] at H
         exact absurd H (by simp)
        rw [if_neg c15] at H
        exact absurd H (by simp)
       rw [if_neg c14] at H
       have gU : decide (ah < (l0.length : Int)) = false := decide_eq_false c14
       clear c14
       simp only [Option.some.injEq, Prod.mk.injEq] at H
       obtain ⟨rfl, rfl⟩ := H
       go_wp2
       go_ret2
       exact ⟨_, Z12, Z1 cA, Z2⟩
    rw [if_neg c11] at H
    exact absurd H (by simp)
   rw [if_neg c10] at H
   exact absurd H (by simp)

/-! ### laws_sameInts: function 14 -/
def laws_sameInts.l0 : Nat → List Int → List Int → Int → Int → Option (Bool)
 | 0, _, _, _, _ => none
 | k + 1, x0, x1, x12, x13 => if x13 < x12 then (if 0 ≤ x13 then (if x13 < (x0.length : Int) then (if x13 < (x1.length : Int) then (if (rd x0 x13) = (rd x1 x13) then (laws_sameInts.l0 k x0 x1 x12 (wrap64 (x13 + 1))) else (some false)) else (none)) else (none)) else (none)) else (some true)
def laws_sameInts.f (k : Nat) (l0 : List Int) (l1 : List Int) : Option (Bool) := if (l0.length : Int) = (l1.length : Int) then (laws_sameInts.l0 k l0 l1 (l0.length : Int) 0) else (some false)
theorem laws_sameInts.mono_l : ∀ k, (∀ y0 y1 y2 y3, LeO (laws_sameInts.l0 k y0 y1 y2 y3) (laws_sameInts.l0 (k + 1) y0 y1 y2 y3))
 | 0 => fun _ _ _ _ r h => by simp [laws_sameInts.l0] at h
 | k + 1 => by
  have ih0 := laws_sameInts.mono_l k
  ·intro y0 y1 y2 y3
   unfold laws_sameInts.l0
   exact mo13_
theorem laws_sameInts.mono : ∀ a0 a1 k, LeO (laws_sameInts.f k a0 a1) (laws_sameInts.f (k + 1) a0 a1) := by
 intro a0 a1 k
 have ih0 := laws_sameInts.mono_l k
 unfold laws_sameInts.f
 exact mo13_
set_option maxHeartbeats 8000000 in
set_option maxRecDepth 100000 in
theorem laws_sameInts.calls (k : Nat) (A0 : Option Addr) (c0 : Nat) (l0 : List Int) (A1 : Option Addr) (c1 : Nat) (l1 : List Int) (r : Bool) (w : World) (hr0 : Kd.C (Kd.int .i64) w A0 l0.length l0) (hc0 : l0.length ≤ c0) (hr1 : Kd.C (Kd.int .i64) w A1 l1.length l1) (hc1 : l1.length ≤ c1) (h : laws_sameInts.f k l0 l1 = some r) :
  Calls Tryz.prog 14 #[.slice A0 l0.length c0, .slice A1 l1.length c1] w fun e w' => e = .returned (.bool r) ∧ Drawn0 w w' := by
 have HR0 := Aside0.mk hr0
 have HC0 := Aside0.mk hc0
 clear hr0 hc0
 have HR1 := Aside0.mk hr1
 have HC1 := Aside0.mk hc1
 clear hr1 hc1
 have H : (if (l0.length : Int) = (l1.length : Int) then (laws_sameInts.l0 k l0 l1 (l0.length : Int) 0) else (some false)) = some r := h
 clear h
 by_cases c3 : (l0.length : Int) = (l1.length : Int)
 ·rw [if_pos c3] at H
  have dj : ((l0.length : Int) == (l1.length : Int)) = true := beq_iff_eq.mpr c3
  have lC : ((l0.length : Int) != (l1.length : Int)) = false := bne_eq_false_iff_eq.mpr c3
  have tk : (l0.length == l1.length) = true := by first | simpa using c3 | (simp at c3 ⊢; omega)
  clear c3
  have H' := Aside0.mk H
  clear H
  go_enter Tryz.func14, Tryz.ntmps14
  go_wp2
  repeat (go_quiet (fail); try go_wp2)
  go_loopg [13] k (fun kq Dw w' => ∃ (aH : Int), Dw = .int .i64 aH ∧ Aside0 (laws_sameInts.l0 kq l0 l1 (l0.length : Int) aH = some r) ∧ Aside0 (kq ≤ k) ∧ Drawn0 w w')
  case atStart => exact ⟨(0), (Z16), H', ⟨Nat.le_refl _⟩, Z44⟩
  case round =>
   clear H'
   (try clear c1); (try clear p2); (try clear c3); (try clear dj); (try clear lC); (try clear tk)
   obtain ⟨aH, rfl, HA, HK1, ⟨m1, rfl⟩⟩ := hrel
   cases gk with
   | zero => exact absurd HA.out (by simp [laws_sameInts.l0])
   | succ k1 =>
    have H := HA.out
    clear HA
    simp only [laws_sameInts.l0] at H
    by_cases c4 : aH < (l0.length : Int)
    ·rw [if_pos c4] at H
     have fj : decide (aH < (l0.length : Int)) = true := decide_eq_true c4
     clear c4
     by_cases c5 : 0 ≤ aH
     ·rw [if_pos c5] at H
      have fX : decide (0 ≤ aH) = true := decide_eq_true c5
      clear c5
      by_cases c6 : aH < (l0.length : Int)
      ·rw [if_pos c6] at H
       have iq : decide (aH < (l0.length : Int)) = true := decide_eq_true c6
       clear c6
       by_cases c7 : aH < (l1.length : Int)
       ·rw [if_pos c7] at H
        have gX : decide (aH < (l1.length : Int)) = true := decide_eq_true c7
        clear c7
        by_cases c8 : (rd l0 aH) = (rd l1 aH)
        ·rw [if_pos c8] at H
         have g7 : ((rd l0 aH) == (rd l1 aH)) = true := beq_iff_eq.mpr c8
         have yQ : ((rd l0 aH) != (rd l1 aH)) = false := bne_eq_false_iff_eq.mpr c8
         clear c8
         have H' := Aside0.mk H
         clear H
         have pO : 0 ≤ (aH : Int) := of_decide_eq_true (Z4)
         have pP : aH < (l0.length : Int) := of_decide_eq_true (Z4)
         obtain ⟨ad567, e567, hx567_0⟩ := Kd.at_int HR0.out aH pO pP
         cases e567
         replace pO := eq_true pO
         replace pP := eq_true pP
         have pQ : 0 ≤ (aH : Int) := of_decide_eq_true (Z4)
         have pR : aH < (l1.length : Int) := of_decide_eq_true (Z4)
         obtain ⟨ad568, e568, hx568_0⟩ := Kd.at_int HR1.out aH pQ pR
         cases e568
         replace pQ := eq_true pQ
         replace pR := eq_true pR
         go_wp2
         repeat (go_quiet (fail); try go_wp2)
         go_roundg k1
         case measure => have := HK1.out; omega
         case rel => exact ⟨(wrap64 (aH + 1)), (Z16), H', ⟨Z76 HK1⟩, Z44⟩
        rw [if_neg c8] at H
        have g7 : ((rd l0 aH) == (rd l1 aH)) = false := beq_eq_false_iff_ne.mpr c8
        have yQ : ((rd l0 aH) != (rd l1 aH)) = true := bne_iff_ne.mpr c8
        obtain rfl := Option.some.inj H
        have pO : 0 ≤ (aH : Int) := of_decide_eq_true (Z4)
        have pP : aH < (l0.length : Int) := of_decide_eq_true (Z4)
        obtain ⟨ad567, e567, hx567_0⟩ := Kd.at_int HR0.out aH pO pP
        cases e567
        replace pO := eq_true pO
        replace pP := eq_true pP
        have pQ : 0 ≤ (aH : Int) := of_decide_eq_true (Z4)
        have pR : aH < (l1.length : Int) := of_decide_eq_true (Z4)
        obtain ⟨ad568, e568, hx568_0⟩ := Kd.at_int HR1.out aH pQ pR
        cases e568
        replace pQ := eq_true pQ
        replace pR := eq_true pR
        go_wp2
        repeat (go_quiet (fail); try go_wp2)
        go_ret
        exact ⟨Z16, Z44⟩
       rw [if_neg c7] at H
       exact absurd H (by simp)
      rw [if_neg c6] at H
      exact absurd H (by simp)
     rw [if_neg c5] at H
     exact absurd H (by simp)
    rw [if_neg c4] at H
    have fj : decide (aH < (l0.length : Int)) = false := decide_eq_false c4
    clear c4
    obtain rfl := Option.some.inj H
    go_wp2
    repeat (go_quiet (fail); try go_wp2)
    go_ret
    exact ⟨Z16, Z44⟩
 rw [if_neg c3] at H
 have dj : ((l0.length : Int) == (l1.length : Int)) = false := beq_eq_false_iff_ne.mpr c3
 have lC : ((l0.length : Int) != (l1.length : Int)) = true := bne_iff_ne.mpr c3
 have tk : (l0.length == l1.length) = false := by first | simpa using c3 | (simp at c3 ⊢; omega)
 obtain rfl := Option.some.inj H
 go_enter Tryz.func14, Tryz.ntmps14
 go_wp2
 repeat (go_quiet (fail); try go_wp2)
 go_ret
 exact ⟨Z16, Z44⟩

/-! ### spec_DrawWayOfHead: function 15 -/
def spec_DrawWayOfHead.f (k : Nat) (l0 : List Int) : Option ((List (S30)) × Int) := (spec_l1Cur_strokes.f k l0 0 0).bind fun jF => ((spec_l1Cur_across.f l0 jF.2.1 jF.2.2).bind fun tl => (some (jF.1, tl.1)))
theorem spec_DrawWayOfHead.mono : ∀ a0 k, LeO (spec_DrawWayOfHead.f k a0) (spec_DrawWayOfHead.f (k + 1) a0) := by
 intro a0 k
 unfold spec_DrawWayOfHead.f
 exact mo13_
set_option maxHeartbeats 8000000 in
set_option maxRecDepth 100000 in
theorem spec_DrawWayOfHead.calls (k : Nat) (A0 : Option Addr) (c0 : Nat) (l0 : List Int) (r1 : List (S30)) (r2 : Int) (w : World) (hr0 : Kd.C (Kd.int .u8) w A0 l0.length l0) (hc0 : l0.length ≤ c0) (h : spec_DrawWayOfHead.f k l0 = some (r1, r2)) :
  Calls Tryz.prog 15 #[.slice A0 l0.length c0] w fun e w' => ∃ v0_ : Value, e = .returned (.tuple #[v0_, .int .i64 r2]) ∧ Kd.R k30 30 w' w.heap.size (fun _ => True) v0_ r1 ∧ Below w.heap.size w w' := by
 have hu45 := Tryz.underlying45
 have HR0 := Aside0.mk hr0
 have HC0 := Aside0.mk hc0
 clear hr0 hc0
 have HB := Aside0.mk (Below.refl w.heap.size w)
 have H : ((spec_l1Cur_strokes.f k l0 0 0).bind fun jF => ((spec_l1Cur_across.f l0 jF.2.1 jF.2.2).bind fun tl => (some (jF.1, tl.1)))) = some (r1, r2) := h
 clear h
 replace H := Option.bind_eq_some_iff.mp H
 obtain ⟨⟨AZ, yR, yS⟩, cK, H⟩ := H
 (try dsimp only at H)
 have A2 := Aside0.mk cK
 clear cK
 replace H := Option.bind_eq_some_iff.mp H
 obtain ⟨⟨Ba, t576, t577⟩, fN, H⟩ := H
 replace H : (some (AZ, Ba)) = some (r1, r2) := H
 have A3 := Aside0.mk fN
 clear fN
 simp only [Option.some.injEq, Prod.mk.injEq] at H
 obtain ⟨rfl, rfl⟩ := H
 go_enter Tryz.func15, Tryz.ntmps15
 go_wp2_with (first | ((with_reducible refine gate_dst (N := 7) rfl ?_); refine bv_ 7 45 #[.slice A0 l0.length c0, .int .i64 0, .int .u64 0] ?_; intro iJ hg w4 hbox hb; refine k4_ (below_step (Z2) hb) ((show IsS45 w w4 iJ l0 0 0 from ⟨_, _, hbox, (Z38), HR0.out⟩)) ((Z38 : w.heap.size ≤ iJ)) ((Z38 : w.heap.size ≤ iJ)) ?_; clear HB; intro HB HI569 GW569 GE569; clear hb hbox hg) | ((with_reducible refine gate_callee (f := 21) rfl ?_); refine gl_ 9 Tryz.func21 #[.pointer (some ⟨iJ, 0, none⟩)] ?_; (with_reducible refine (spec_l1Cur_strokes.calls k iJ l0 0 0 AZ yR yS w _ ?_ ?_ A2.out).mono ?_); exact (Z3 HI569); exact Z75; rintro e w5 ⟨v571, rfl, ho0, hi, hb, hk⟩; refine ⟨_, rfl, ?_⟩; refine k3_ (Kd.R_lower ho0 (below_size (Z75))) (hb) (hi) ?_; clear HB HI569; intro qY HB HI569; (try clear hb hk hi ho0)) | ((with_reducible refine gate_callee (f := 23) rfl ?_); refine gl_ 11 Tryz.func23 #[.pointer (some ⟨iJ, 0, none⟩)] ?_; (with_reducible refine (spec_l1Cur_across.calls iJ l0 yR yS Ba t576 t577 w _ ?_ ?_ A3.out).mono ?_); exact (Z3 HI569); exact Z75; rintro e w6 ⟨rfl, hi, hb, hk⟩; refine ⟨_, rfl, ?_⟩; refine k3_ (Kd.R_mono (Kd.R_keep (IsS45.apart (show IsS45 w _ iJ l0 yR yS from Z3 HI569) (Z1 qY) (by decide)) hk (fun _ h => h.2)) (fun _ h => h.1)) (hb) (hi) ?_; clear qY HB HI569; intro qY HB HI569; (try clear hb hk hi)))
 go_ret2
 exact ⟨_, Z12, Z1 qY, Z75⟩

/-! ### spec_WayOfHead: function 16 -/
def spec_WayOfHead.f (k : Nat) (l0 : List (S30)) (a1 : Int) : Option (Int × Bool) := (spec_puGood.f k l0).bind fun tm => (if tm = true then ((spec_puAcross.f a1).bind fun tn => (if tn = true then ((spec_puSum.f k l0 a1).bind fun rP => (some (rP, true))) else (some (0, false)))) else (some (0, false)))
theorem spec_WayOfHead.mono : ∀ a0 a1 k, LeO (spec_WayOfHead.f k a0 a1) (spec_WayOfHead.f (k + 1) a0 a1) := by
 intro a0 a1 k
 unfold spec_WayOfHead.f
 exact mo13_
set_option maxHeartbeats 8000000 in
set_option maxRecDepth 100000 in
theorem spec_WayOfHead.calls (k : Nat) (A0 : Option Addr) (c0 : Nat) (l0 : List (S30)) (a1 : Int) (r1 : Int) (r2 : Bool) (w : World) (hr0 : Kd.C k30 w A0 l0.length l0) (hc0 : l0.length ≤ c0) (h : spec_WayOfHead.f k l0 a1 = some (r1, r2)) :
  Calls Tryz.prog 16 #[.slice A0 l0.length c0, .int .i64 a1] w fun e w' => e = .returned (.tuple #[.int .i64 r1, .bool r2]) ∧ Below w.heap.size w w' := by
 have HR0 := Aside0.mk hr0
 have HC0 := Aside0.mk hc0
 clear hr0 hc0
 have HB := Aside0.mk (Below.refl w.heap.size w)
 have H : ((spec_puGood.f k l0).bind fun tm => (if tm = true then ((spec_puAcross.f a1).bind fun tn => (if tn = true then ((spec_puSum.f k l0 a1).bind fun rP => (some (rP, true))) else (some (0, false)))) else (some (0, false)))) = some (r1, r2) := h
 clear h
 replace H := Option.bind_eq_some_iff.mp H
 obtain ⟨tm, fN, H⟩ := H
 (try dsimp only at H)
 have A3 := Aside0.mk fN
 clear fN
 by_cases c4 : tm = true
 ·subst c4
  rw [if_pos rfl] at H
  replace H := Option.bind_eq_some_iff.mp H
  obtain ⟨tn, fM, H⟩ := H
  (try dsimp only at H)
  have A5 := Aside0.mk fM
  clear fM
  by_cases c6 : tn = true
  ·subst c6
   rw [if_pos rfl] at H
   replace H := Option.bind_eq_some_iff.mp H
   obtain ⟨rP, nq, H⟩ := H
   replace H : (some (rP, true)) = some (r1, r2) := H
   have A7 := Aside0.mk nq
   clear nq
   simp only [Option.some.injEq, Prod.mk.injEq] at H
   obtain ⟨rfl, rfl⟩ := H
   go_enter Tryz.func16, Tryz.ntmps16
   go_wp2_with (first | ((with_reducible refine gate_callee (f := 28) rfl ?_); refine gl_ 7 Tryz.func28 #[.slice A0 l0.length c0] ?_; (with_reducible refine (spec_puGood.calls k _ _ l0 true _ ?_ ?_ A3.out).mono ?_); exact (Z18 HR0); exact HC0.out; rintro e w8 ⟨rfl, hb⟩; refine ⟨_, rfl, ?_⟩; refine k1_ (below_step (Z2) hb) ?_; clear HB; intro HB; (try clear hb)) | (go_at_call 29; (with_reducible refine (spec_puAcross.calls a1 true _ A5.out).mono ?_); rintro e w' ⟨rfl, ⟨nd, rfl⟩⟩) | ((with_reducible refine gate_callee (f := 31) rfl ?_); refine gl_ 16 Tryz.func31 #[.slice A0 l0.length c0, .int .i64 a1] ?_; (with_reducible refine (spec_puSum.calls k _ _ l0 a1 rP _ ?_ ?_ A7.out).mono ?_); exact Z132; exact HC0.out; rintro e w9 ⟨rfl, hb⟩; refine ⟨_, rfl, ?_⟩; refine k1_ (below_step (Z2) hb) ?_; clear HB; intro HB; (try clear hb)))
   go_ret2
   exact ⟨Z12, Z2⟩
  replace c6 := Bool.eq_false_iff.mpr c6
  subst c6
  rw [if_neg (show ¬ (false = true) by decide)] at H
  simp only [Option.some.injEq, Prod.mk.injEq] at H
  obtain ⟨rfl, rfl⟩ := H
  go_enter Tryz.func16, Tryz.ntmps16
  go_wp2_with (first | ((with_reducible refine gate_callee (f := 28) rfl ?_); refine gl_ 7 Tryz.func28 #[.slice A0 l0.length c0] ?_; (with_reducible refine (spec_puGood.calls k _ _ l0 true _ ?_ ?_ A3.out).mono ?_); exact (Z18 HR0); exact HC0.out; rintro e ng ⟨rfl, hb⟩; refine ⟨_, rfl, ?_⟩; refine k1_ (below_step (Z2) hb) ?_; clear HB; intro HB; (try clear hb)) | (go_at_call 29; (with_reducible refine (spec_puAcross.calls a1 false _ A5.out).mono ?_); rintro e w' ⟨rfl, ⟨nd, rfl⟩⟩))
  go_ret2
  exact ⟨Z12, Z2⟩
 replace c4 := Bool.eq_false_iff.mpr c4
 subst c4
 rw [if_neg (show ¬ (false = true) by decide)] at H
 simp only [Option.some.injEq, Prod.mk.injEq] at H
 obtain ⟨rfl, rfl⟩ := H
 go_enter Tryz.func16, Tryz.ntmps16
 go_wp2_with (first | ((with_reducible refine gate_callee (f := 28) rfl ?_); refine gl_ 7 Tryz.func28 #[.slice A0 l0.length c0] ?_; (with_reducible refine (spec_puGood.calls k _ _ l0 false _ ?_ ?_ A3.out).mono ?_); exact (Z18 HR0); exact HC0.out; rintro e lA ⟨rfl, hb⟩; refine ⟨_, rfl, ?_⟩; refine k1_ (below_step (Z2) hb) ?_; clear HB; intro HB; (try clear hb)))
 go_ret2
 exact ⟨Z12, Z2⟩

/-! ### spec_DrawAreStrokes: function 35 -/
def spec_DrawAreStrokes.f (k : Nat) (l0 : List Int) : Option ((List (S30))) := (spec_l1Cur_strokes.f k l0 0 0).bind fun tp => (some tp.1)
theorem spec_DrawAreStrokes.mono : ∀ a0 k, LeO (spec_DrawAreStrokes.f k a0) (spec_DrawAreStrokes.f (k + 1) a0) := by
 intro a0 k
 unfold spec_DrawAreStrokes.f
 exact mo13_
set_option maxHeartbeats 8000000 in
set_option maxRecDepth 100000 in
theorem spec_DrawAreStrokes.calls (k : Nat) (A0 : Option Addr) (c0 : Nat) (l0 : List Int) (r : List (S30)) (w : World) (hr0 : Kd.C (Kd.int .u8) w A0 l0.length l0) (hc0 : l0.length ≤ c0) (h : spec_DrawAreStrokes.f k l0 = some r) :
  Calls Tryz.prog 35 #[.slice A0 l0.length c0] w fun e w' => ∃ v0_ : Value, e = .returned (v0_) ∧ Kd.R k30 30 w' w.heap.size (fun _ => True) v0_ r ∧ Below w.heap.size w w' := by
 have hu45 := Tryz.underlying45
 have HR0 := Aside0.mk hr0
 have HC0 := Aside0.mk hc0
 clear hr0 hc0
 have HB := Aside0.mk (Below.refl w.heap.size w)
 have H : ((spec_l1Cur_strokes.f k l0 0 0).bind fun tp => (some tp.1)) = some r := h
 clear h
 replace H := Option.bind_eq_some_iff.mp H
 obtain ⟨⟨Bb, t585, t586⟩, cK, H⟩ := H
 replace H : (some Bb) = some r := H
 have A2 := Aside0.mk cK
 clear cK
 obtain rfl := Option.some.inj H
 go_enter Tryz.func35, Tryz.ntmps35
 go_wp2_with (first | ((with_reducible refine gate_dst (N := 6) rfl ?_); refine bv_ 6 45 #[.slice A0 l0.length c0, .int .i64 0, .int .u64 0] ?_; intro nB hg w3 hbox hb; refine k4_ (below_step (Z2) hb) ((show IsS45 w w3 nB l0 0 0 from ⟨_, _, hbox, (Z38), HR0.out⟩)) ((Z38 : w.heap.size ≤ nB)) ((Z38 : w.heap.size ≤ nB)) ?_; clear HB; intro HB HI581 GW581 GE581; clear hb hbox hg) | ((with_reducible refine gate_callee (f := 21) rfl ?_); refine gl_ 8 Tryz.func21 #[.pointer (some ⟨nB, 0, none⟩)] ?_; (with_reducible refine (spec_l1Cur_strokes.calls k nB l0 0 0 Bb t585 t586 w _ ?_ ?_ A2.out).mono ?_); exact (Z3 HI581); exact Z102; rintro e w4 ⟨v583, rfl, ho0, hi, hb, hk⟩; refine ⟨_, rfl, ?_⟩; refine k3_ (Kd.R_lower ho0 (below_size (Z102))) (hb) (hi) ?_; clear HB HI581; intro HO584 HB HI581; (try clear hb hk hi ho0)))
 go_ret
 exact ⟨_, Z12, Z1 HO584, Z102⟩

/-! ### spec_DrawRowOrder: function 17 -/
def spec_DrawRowOrder.f (k : Nat) (l0 : List Int) : Option ((List (S30))) := (spec_DrawAreStrokes.f k l0).bind fun rQ => (some rQ)
theorem spec_DrawRowOrder.mono : ∀ a0 k, LeO (spec_DrawRowOrder.f k a0) (spec_DrawRowOrder.f (k + 1) a0) := by
 intro a0 k
 unfold spec_DrawRowOrder.f
 exact mo13_
set_option maxHeartbeats 8000000 in
set_option maxRecDepth 100000 in
theorem spec_DrawRowOrder.calls (k : Nat) (A0 : Option Addr) (c0 : Nat) (l0 : List Int) (r : List (S30)) (w : World) (hr0 : Kd.C (Kd.int .u8) w A0 l0.length l0) (hc0 : l0.length ≤ c0) (h : spec_DrawRowOrder.f k l0 = some r) :
  Calls Tryz.prog 17 #[.slice A0 l0.length c0] w fun e w' => ∃ v0_ : Value, e = .returned (v0_) ∧ Kd.R k30 30 w' w.heap.size (fun _ => True) v0_ r ∧ Below w.heap.size w w' := by
 have HR0 := Aside0.mk hr0
 have HC0 := Aside0.mk hc0
 clear hr0 hc0
 have HB := Aside0.mk (Below.refl w.heap.size w)
 have H : ((spec_DrawAreStrokes.f k l0).bind fun rQ => (some rQ)) = some r := h
 clear h
 replace H := Option.bind_eq_some_iff.mp H
 obtain ⟨rQ, cK, H⟩ := H
 replace H : (some rQ) = some r := H
 have A2 := Aside0.mk cK
 clear cK
 obtain rfl := Option.some.inj H
 go_enter Tryz.func17, Tryz.ntmps17
 go_wp2_with (first | ((with_reducible refine gate_callee (f := 35) rfl ?_); refine gl_ 4 Tryz.func35 #[.slice A0 l0.length c0] ?_; (with_reducible refine (spec_DrawAreStrokes.calls k _ _ l0 rQ _ ?_ ?_ A2.out).mono ?_); exact (Z18 HR0); exact HC0.out; rintro e w3 ⟨v588, rfl, ho0, hb⟩; refine ⟨_, rfl, ?_⟩; refine k2_ (Kd.R_lower ho0 (below_size (Z2))) (below_step (Z2) hb) ?_; clear HB; intro HO589 HB; (try clear hb ho0)))
 go_ret
 exact ⟨_, Z12, Z1 HO589, Z2⟩

/-! ### slices_Clone_int: function 49: by this session -/
def slices_Clone_int.f (l0 : List (Int)) : Option (List (Int)) := if l0.length ≤ 17592186044416 then some l0 else none
set_option maxHeartbeats 8000000 in
set_option maxRecDepth 100000 in
theorem slices_Clone_int.calls (A0 : Option Addr) (c0 : Nat) (l0 : List (Int)) (r : List (Int)) (w : World) (hr0 : Kd.C (Kd.int .i64) w A0 l0.length l0) (hc0 : l0.length ≤ c0) (h : slices_Clone_int.f l0 = some r) :
  Calls Tryz.prog 49 #[.slice A0 l0.length c0] w fun e w' => ∃ v0_ : Value, e = .returned (v0_) ∧ Kd.R (Kd.int .i64) 3 w' w.heap.size (fun _ => True) v0_ r ∧ Below w.heap.size w w' := by
 have hn : l0.length ≤ 17592186044416 ∧ l0 = r := by
  unfold slices_Clone_int.f at h
  split at h
  ·exact ⟨by assumption, Option.some.inj h⟩
  cases h
 obtain ⟨hn, rfl⟩ := hn
 clear h
 have hq : ∀ (w : World) (a : Option Addr) (n c n' c' : Nat), (binOp .eql 34 (.slice a n c) (.slice none n' c')).run Tryz.prog w = .ok (.bool a.isNone) w := fun w a n c n' c' => Lib.run_eql_slice_nil w _ _ a n c n' c' Tryz.underlying34
 have HC := Aside0.mk hr0
 have HN := Aside0.mk hn
 have HB := Aside0.mk (Below.refl w.heap.size w)
 clear hr0 hn
 rcases A0 with _ | ad
 ·have h0 : l0 = [] := by
   cases l0 with
   | nil => rfl
   | cons x xs =>
    obtain ⟨ad, h, _⟩ := HC.out.2.2 (by simp)
    cases h
  subst h0
  clear HC HN
  go_enter Tryz.func49, Tryz.ntmps49
  go_wp2
  go_ret
  exact ⟨_, rfl, Kd.R_nil _ _ _ _ _, Below.refl _ _⟩
 go_enter Tryz.func49, Tryz.ntmps49
 go_wp2_with (at_builtin; refine Kd.R_append_rows (Kd.int .i64) (w0 := w) w.heap.size rfl _ _ 34 3 (.int .i64 0) 8 rfl Tryz.underlying34 (by kernel_rfl) rfl (by decide) (by omega) (.slice (some ⟨w.heap.size, 0, none⟩) 0 0) [] l0 _ _ _ (fun _ => True) (fun _ => False) rfl rfl ?aO ?aR (fun _ _ h => h) (fun _ h => h.elim) ?aF ?aB ?aS ?aL ?_)
 case aO => exact ⟨fun _ _ => trivial, [], World.ownsRow_made w #[] 0 (Nat.le_refl _) (Nat.zero_le _) (by simp), Reps.none _ _⟩
 case aR => exact Kd.C_alloc HC.out _
 case aF => exact fun _ _ => trivial
 case aB => exact below_alloc (Below.refl _ _) _
 case aS => simp
 case aL => have := HN.out; simp only [List.length_nil]; omega
 intro v1 w1 ho hb hg hat
 go_wp2
 go_ret
 exact ⟨_, rfl, ho, hb⟩

/-! ### impl_sortedSet: function 36: by this session -/
theorem impl_sortedSet.of_reps {xs : List Int} {inner : List Value} (h : Reps (fun x cs => cs = [Value.int .i64 x]) 1 xs inner) : inner = xs.map (Value.int .i64) := by
 obtain ⟨h1, h2⟩ := h
 refine List.ext_getElem (by simp [h1]) fun j g1 g2 => ?_
 have hj : j < xs.length := by simpa using g2
 have e := h2 j _ (List.getElem?_eq_getElem hj)
 have e2 := congrArg (fun l => l[0]?) e
 simp only [List.getElem?_take, List.getElem?_drop, Nat.mul_one, Nat.add_zero, Nat.zero_lt_one, if_true, List.getElem?_cons_zero] at e2
 rw [List.getElem?_eq_getElem g1] at e2
 rw [Option.some.inj e2, List.getElem_map]
theorem impl_sortedSet.reps (xs : List Int) : Reps (fun x cs => cs = [Value.int .i64 x]) 1 xs (xs.map (Value.int .i64)) := by
 refine ⟨by simp, fun j p hp => ?_⟩
 obtain ⟨hj, rfl⟩ := List.getElem?_eq_some_iff.1 hp
 rw [Nat.mul_one, List.drop_eq_getElem_cons (by simpa using hj)]
 simp
/-- sort.Ints at a row of the call's own. -/
theorem impl_sortedSet.ints (A : Option Addr) (c : Nat) (xs : List Int) (base : Nat) (ok : Nat → Prop) (w : World) (hlen : xs.length < 4611686018427387904) (hR : Kd.R (Kd.int .i64) 3 w base ok (.slice A xs.length c) xs) :
  Calls Tryz.prog 50 #[.slice A xs.length c] w fun e' w' => e' = .returned (.tuple #[]) ∧ Kd.R (Kd.int .i64) 3 w' base ok (.slice A xs.length c) (xs.mergeSort fun x y => decide (x ≤ y)) ∧ w.grownBy w' (Value.ownBlock (.slice A xs.length c)) := by
 have hl : (xs.mergeSort fun x y => decide (x ≤ y)).length = xs.length := List.length_mergeSort xs
 obtain ⟨h0, inner, ho, hr⟩ := hR
 have ein : inner = xs.map (Value.int .i64) := impl_sortedSet.of_reps hr
 subst ein
 obtain ⟨hlen2, ho2⟩ := ho
 rcases ho2 with ⟨hv, hn⟩ | ⟨g, cap, cur, hv, hb, hh, hc, hm, hs, ht⟩
 ·injection hv with hv1 hv2 hv3
  subst hv1 hv3
  obtain rfl : xs = [] := List.length_eq_zero_iff.1 hn
  refine (Any.sort_Ints_none Tryz.lays191 none 0 w).mono ?_
  rintro e' w' ⟨rfl, rfl⟩
  exact ⟨rfl, by simpa using Kd.R_mono (Kd.R_nil (Kd.int .i64) 3 w' base ok) (fun _ h => h), World.grownBy.refl _ _⟩
 injection hv with hv1 hv2 hv3
 subst hv1 hv3
 replace ht : List.take (xs.length * 1) cur.toList = List.map (Value.int .i64) xs := ht
 rw [Nat.mul_one] at ht
 have hH := holds_of_blockI hh ht
 refine (Any.sort_Ints Tryz.lays191 g 0 c xs w hH (Array.getElem?_eq_some_iff.1 hh).1 hlen).mono ?_
 rintro e' w' ⟨rfl, n, os, rfl⟩
 refine ⟨rfl, ⟨h0, (xs.mergeSort fun x y => decide (x ≤ y)).map (Value.int .i64), ?_, impl_sortedSet.reps _⟩, Go.grownBy_sortedI _⟩
 rw [hl]
 exact Go.ownsRow_sortedI hl hb hh hc hm hs
/-- slices.Compact at a row of the call's own. -/
theorem impl_sortedSet.compact (A : Option Addr) (c : Nat) (xs : List Int) (n : Nat) (hn_ : xs.length = n) (base : Nat) (ok : Nat → Prop) (w : World) (hR : Kd.R (Kd.int .i64) 3 w base ok (.slice A n c) xs) :
  Calls Tryz.prog 51 #[.slice A n c] w fun e' w' => e' = .returned (.slice A (Lib.compact xs).length c) ∧ Kd.R (Kd.int .i64) 3 w' base ok (.slice A (Lib.compact xs).length c) (Lib.compact xs) ∧ w.grownBy w' (Value.ownBlock (.slice A n c)) := by
 subst hn_
 have hle : (Lib.compact xs).length ≤ xs.length := by unfold Lib.compact Lib.compactUpTo; rw [List.length_map]; exact Nat.le_trans (List.length_filter_le _ _) (by simp)
 obtain ⟨h0, inner, ho, hr⟩ := hR
 have ein : inner = xs.map (Value.int .i64) := impl_sortedSet.of_reps hr
 subst ein
 obtain ⟨hlen2, ho2⟩ := ho
 rcases ho2 with ⟨hv, hn⟩ | ⟨g, cap, cur, hv, hb, hh, hc, hm, hs, ht⟩
 ·injection hv with hv1 hv2 hv3
  subst hv1 hv3
  obtain rfl : xs = [] := List.length_eq_zero_iff.1 hn
  refine (Any.slices_Compact_int_empty Tryz.lays220 none 0 w).mono ?_
  rintro e' w' ⟨rfl, rfl⟩
  exact ⟨rfl, Kd.R_nil (Kd.int .i64) 3 w' base ok, World.grownBy.refl _ _⟩
 injection hv with hv1 hv2 hv3
 subst hv1 hv3
 replace ht : List.take (xs.length * 1) cur.toList = List.map (Value.int .i64) xs := ht
 rw [Nat.mul_one] at ht
 have hH := holds_of_blockI hh ht
 refine (Any.slices_Compact_int Tryz.lays220 g 0 c xs w hH (by unfold maxLen at hm; omega) hc).mono ?_
 rintro e' w' ⟨rfl, q, rfl⟩
 have hg : w.grownBy (Go.Sort.putRow (Value.int .i64) (Go.Sort.ahead w q) g 0 (Lib.compact xs ++ List.replicate (xs.length - (Lib.compact xs).length) 0).toArray) (some g) := by
  have := Go.grownBy_sortedI (w := w) (g := g) (n := q) (os := #[]) (Lib.compact xs ++ List.replicate (xs.length - (Lib.compact xs).length) 0).toArray
  rwa [Go.Sort.grow_empty] at this
 refine ⟨rfl, ⟨h0, (Lib.compact xs).map (Value.int .i64), ⟨by rw [List.length_map]; exact (Nat.mul_one _).symm, .inr ⟨g, c, Go.Sort.putCells (Value.int .i64) 0 (Lib.compact xs ++ List.replicate (xs.length - (Lib.compact xs).length) 0).toArray cur, rfl, hb, ?_, by omega, hm, by simpa [Go.Sort.putCells] using hs, ?_⟩⟩, impl_sortedSet.reps _⟩, hg⟩
 ·have := Go.heap_sortedI (n := q) (os := #[]) (Lib.compact xs ++ List.replicate (xs.length - (Lib.compact xs).length) 0).toArray hh
  rwa [Go.Sort.grow_empty] at this
 have hl2 : (Lib.compact xs ++ List.replicate (xs.length - (Lib.compact xs).length) (0 : Int)).length = xs.length := by simp; omega
 have hs1 : cur.size = c * 1 := hs
 have := Go.take_putCellsI cur (Lib.compact xs ++ List.replicate (xs.length - (Lib.compact xs).length) 0) (by omega)
 rw [hl2] at this
 have h2 := congrArg (List.take (Lib.compact xs).length) this
 rw [List.take_take, Nat.min_eq_left hle, ← List.map_take, List.take_left] at h2
 rw [show (Lib.compact xs).length * (Kd.int .i64).sz = (Lib.compact xs).length from Nat.mul_one _]
 exact h2
def impl_sortedSet.f (l0 : List Int) : Option (List Int) := (slices_Clone_int.f l0).bind fun t => some (Lib.compact (t.mergeSort fun x y => decide (x ≤ y)))
set_option maxHeartbeats 8000000 in
set_option maxRecDepth 100000 in
theorem impl_sortedSet.calls (A0 : Option Addr) (c0 : Nat) (l0 : List Int) (r : List Int) (w : World) (hr0 : Kd.C (Kd.int .i64) w A0 l0.length l0) (hc0 : l0.length ≤ c0) (h : impl_sortedSet.f l0 = some r) :
  Calls Tryz.prog 36 #[.slice A0 l0.length c0] w fun e w' => ∃ v0_ : Value, e = .returned (v0_) ∧ Kd.R (Kd.int .i64) 3 w' w.heap.size (fun _ => True) v0_ r ∧ Below w.heap.size w w' := by
 have HR0 := Aside0.mk hr0
 have HC0 := Aside0.mk hc0
 clear hr0 hc0
 obtain ⟨t, A1, H⟩ := Option.bind_eq_some_iff.mp h
 obtain rfl := Option.some.inj H
 have A2 := Aside0.mk A1
 have hlt : t.length < 4611686018427387904 := by
  unfold slices_Clone_int.f at A1
  split at A1
  ·rw [← Option.some.inj A1]; omega
  cases A1
 have HN := Aside0.mk hlt
 clear h A1 H hlt
 go_enter Tryz.func36, Tryz.ntmps36
 go_wp2_with (first | ((with_reducible refine gate_callee (f := 49) rfl ?_); refine goesL_ (some 5) rfl rfl Tryz.func49 (by kernel_rfl) rfl #[.slice A0 l0.length c0] rfl (Z124) ?_; refine (slices_Clone_int.calls A0 c0 l0 t w HR0.out HC0.out A2.out).mono ?_; rintro e w1 ⟨v1, rfl, ho1, hb1⟩; refine ⟨_, rfl, ?_⟩; obtain ⟨Ao, co, eo⟩ := Kd.R_slice ho1; subst eo; have DR := Aside0.mk ho1; have HB1 := Aside0.mk hb1; clear ho1 hb1) | ((with_reducible refine gate_callee (f := 50) rfl ?_); refine goesL_ (some 7) rfl rfl Tryz.func50 (by kernel_rfl) rfl #[.slice Ao t.length co] rfl (Z124) ?_; refine (impl_sortedSet.ints Ao co t w.heap.size (fun _ => True) w1 HN.out DR.out).mono ?_; rintro e w2 ⟨rfl, ho2, hg2⟩; refine ⟨_, rfl, ?_⟩; have hl2 : (t.mergeSort fun x y => decide (x ≤ y)).length = t.length := List.length_mergeSort t; have HB2 := Aside0.mk (HB1.out.grown hg2 (HB1.out).size (fun k_ hk_ => Kd.R_base DR.out k_ hk_)); have DS := Aside0.mk ho2; clear ho2 hg2) | ((with_reducible refine gate_callee (f := 51) rfl ?_); refine goesL_ (some 9) rfl rfl Tryz.func51 (by kernel_rfl) rfl #[.slice Ao t.length co] rfl (Z124) ?_; refine (impl_sortedSet.compact Ao co (t.mergeSort fun x y => decide (x ≤ y)) t.length hl2 w.heap.size (fun _ => True) w2 DS.out).mono ?_; rintro e w3 ⟨rfl, ho3, hg3⟩; refine ⟨_, rfl, ?_⟩; have HB3 := Aside0.mk (HB2.out.grown hg3 (HB2.out).size (fun k_ hk_ => Kd.R_base DS.out k_ hk_)); have HO3 := Aside0.mk ho3; clear ho3 hg3))
 go_ret
 exact ⟨_, rfl, HO3.out, HB3.out⟩

/-! ### impl_RowOrder_1: function 38 -/
def impl_RowOrder_1.f (a0 : Int) (a1 : Int) (a2 : Int) (l3 : List (S30)) : Option (Bool) := if (Int.tmod a2 2) = 0 then (if 0 ≤ a0 then (if a0 < (l3.length : Int) then (if 0 ≤ a1 then (if a1 < (l3.length : Int) then (some (decide (((rd_T30 l3 a0).f0) < ((rd_T30 l3 a1).f0)))) else (none)) else (none)) else (none)) else (none)) else (if 0 ≤ a0 then (if a0 < (l3.length : Int) then (if 0 ≤ a1 then (if a1 < (l3.length : Int) then (some (decide (((rd_T30 l3 a0).f0) > ((rd_T30 l3 a1).f0)))) else (none)) else (none)) else (none)) else (none))
set_option maxHeartbeats 8000000 in
set_option maxRecDepth 100000 in
theorem impl_RowOrder_1.calls (a0 : Int) (a1 : Int) (p2 : Nat) (a2 : Int) (p3 : Nat) (A3 : Option Addr) (c3 : Nat) (l3 : List (S30)) (r : Bool) (w : World) (hr3 : Kd.C k30 w A3 l3.length l3) (hc3 : l3.length ≤ c3) (hb2 : w.heap[p2]? = some (.cells #[.int .i64 a2] 3 (0, 0))) (hb3 : w.heap[p3]? = some (.cells #[.slice A3 l3.length c3] 24 (0, 0))) (hn2_3 : p2 ≠ p3) (hn3_2 : p3 ≠ p2) (h : impl_RowOrder_1.f a0 a1 a2 l3 = some r) :
  Calls Tryz.prog 38 #[.int .i64 a0, .int .i64 a1, .pointer (some ⟨p2, 0, none⟩), .pointer (some ⟨p3, 0, none⟩)] w fun e w' => e = .returned (.bool r) ∧ Drawn0 w w' := by
 have hu3 := Tryz.underlying3
 have hu24 := Tryz.underlying24
 have HR3 := Aside0.mk hr3
 have HC3 := Aside0.mk hc3
 clear hr3 hc3
 have wY := Aside0.mk hb2
 clear hb2
 have wZ := Aside0.mk hb3
 clear hb3
 have lN := Aside0.mk hn2_3
 clear hn2_3
 have lO := Aside0.mk hn3_2
 clear hn3_2
 have H : (if (Int.tmod a2 2) = 0 then (if 0 ≤ a0 then (if a0 < (l3.length : Int) then (if 0 ≤ a1 then (if a1 < (l3.length : Int) then (some (decide (((rd_T30 l3 a0).f0) < ((rd_T30 l3 a1).f0)))) else (none)) else (none)) else (none)) else (none)) else (if 0 ≤ a0 then (if a0 < (l3.length : Int) then (if 0 ≤ a1 then (if a1 < (l3.length : Int) then (some (decide (((rd_T30 l3 a0).f0) > ((rd_T30 l3 a1).f0)))) else (none)) else (none)) else (none)) else (none))) = some r := h
 clear h
 by_cases c5 : (Int.tmod a2 2) = 0
 ·rw [if_pos c5] at H
  have fX : ((Int.tmod a2 2) == 0) = true := beq_iff_eq.mpr c5
  have pS : ((Int.tmod a2 2) != 0) = false := bne_eq_false_iff_eq.mpr c5
  clear c5
  by_cases c6 : 0 ≤ a0
  ·rw [if_pos c6] at H
   have iq : decide (0 ≤ a0) = true := decide_eq_true c6
   clear c6
   by_cases c7 : a0 < (l3.length : Int)
   ·rw [if_pos c7] at H
    have gX : decide (a0 < (l3.length : Int)) = true := decide_eq_true c7
    clear c7
    by_cases c8 : 0 ≤ a1
    ·rw [if_pos c8] at H
     have g7 : decide (0 ≤ a1) = true := decide_eq_true c8
     clear c8
     by_cases c9 : a1 < (l3.length : Int)
     ·rw [if_pos c9] at H
      have iX : decide (a1 < (l3.length : Int)) = true := decide_eq_true c9
      clear c9
      obtain rfl := Option.some.inj H
      have hnb10 := lN.out
      have hnc10 := lO.out
      obtain ⟨i9, ja⟩ := bx1_ (w := w) wY.out
      obtain ⟨jb, jc⟩ := bx1_ (w := w) wZ.out
      have yT : 0 ≤ (a0 : Int) := of_decide_eq_true (Z4)
      have yU : a0 < (l3.length : Int) := of_decide_eq_true (Z4)
      obtain ⟨ad592, e592, hx592_0, hx592_1⟩ := at_T30 HR3.out a0 yT yU
      cases e592
      replace yT := eq_true yT
      replace yU := eq_true yU
      have yV : 0 ≤ (a1 : Int) := of_decide_eq_true (Z4)
      have yW : a1 < (l3.length : Int) := of_decide_eq_true (Z4)
      obtain ⟨ad593, e593, hx593_0, hx593_1⟩ := at_T30 HR3.out a1 yV yW
      obtain rfl : ad592 = ad593 := (by injection e593)
      replace yV := eq_true yV
      replace yW := eq_true yW
      go_enter Tryz.func38, Tryz.ntmps38
      go_wp2
      repeat (go_quiet (fail); try go_wp2)
      go_ret
      exact ⟨Z16, Z44⟩
     rw [if_neg c9] at H
     exact absurd H (by simp)
    rw [if_neg c8] at H
    exact absurd H (by simp)
   rw [if_neg c7] at H
   exact absurd H (by simp)
  rw [if_neg c6] at H
  exact absurd H (by simp)
 rw [if_neg c5] at H
 have fX : ((Int.tmod a2 2) == 0) = false := beq_eq_false_iff_ne.mpr c5
 have pS : ((Int.tmod a2 2) != 0) = true := bne_iff_ne.mpr c5
 by_cases c13 : 0 ≤ a0
 ·rw [if_pos c13] at H
  have fZ : decide (0 ≤ a0) = true := decide_eq_true c13
  clear c13
  by_cases c14 : a0 < (l3.length : Int)
  ·rw [if_pos c14] at H
   have gU : decide (a0 < (l3.length : Int)) = true := decide_eq_true c14
   clear c14
   by_cases c15 : 0 ≤ a1
   ·rw [if_pos c15] at H
    have fO : decide (0 ≤ a1) = true := decide_eq_true c15
    clear c15
    by_cases c16 : a1 < (l3.length : Int)
    ·rw [if_pos c16] at H
     have ej : decide (a1 < (l3.length : Int)) = true := decide_eq_true c16
     clear c16
     obtain rfl := Option.some.inj H
     have hnb17 := lN.out
     have hnc17 := lO.out
     obtain ⟨hcz18_0, hfz18_0⟩ := bx1_ (w := w) wY.out
     obtain ⟨mC, mD⟩ := bx1_ (w := w) wZ.out
     have yX : 0 ≤ (a0 : Int) := of_decide_eq_true (Z4)
     have yY : a0 < (l3.length : Int) := of_decide_eq_true (Z4)
     obtain ⟨ad594, e594, hx594_0, hx594_1⟩ := at_T30 HR3.out a0 yX yY
     cases e594
     replace yX := eq_true yX
     replace yY := eq_true yY
     have yZ : 0 ≤ (a1 : Int) := of_decide_eq_true (Z4)
     have za : a1 < (l3.length : Int) := of_decide_eq_true (Z4)
     obtain ⟨ad595, e595, hx595_0, hx595_1⟩ := at_T30 HR3.out a1 yZ za
     obtain rfl : ad594 = ad595 := (by injection e595)
     replace yZ := eq_true yZ
     replace za := eq_true za
     go_enter Tryz.func38, Tryz.ntmps38
     go_wp2
     repeat (go_quiet (fail); try go_wp2)
     go_ret
     exact ⟨Z16, Z44⟩
    rw [if_neg c16] at H
    exact absurd H (by simp)
   rw [if_neg c15] at H
   exact absurd H (by simp)
  rw [if_neg c14] at H
  exact absurd H (by simp)
 rw [if_neg c13] at H
 exact absurd H (by simp)

end Go.Proofs.YtmnnmddfmmaohaaGreat.PFnHead
