-- written by a program of this session: the kit's print, with outer functions of the session's own (wip/ext)
import Derived.Test.YtmnnmddfmmaohaaPFnPunchJobsx0
import Derived.Test.YtmnnmddfmmaohaaPFnPunchJobsx9
namespace Go.Proofs.Ytmnnmddfmmaohaa.PFnPunchJobs
open Go.RowKit Go.Proofs.YtmnnmddfmmaohaaW.PrintWords Go.Proofs.YtmnnmddfmmaohaaW.PrintLast Go.Proofs.YtmnnmddfmmaohaaW.PrintMore
attribute [local go_sem] max2_int min2_int max_two min_two max_three min_three max_four min_four   -- for this text's walks alone
set_option linter.unusedVariables false
set_option linter.unusedSimpArgs false
theorem mo10_ {p : Prop} (h : p := by repeat' first | (with_reducible first | apply ih0 | apply ih0 | apply ih1 | apply ih1 | apply ih2 | apply ih2 | exact LeO.refl _ | exact LeO.none _ | refine LeO.ite ?_ ?_ | refine LeO.bind ?_ (fun _ => ?_)) | exact LeO.none _ | refine LeO.ite ?_ ?_ | refine LeO.bind ?_ (fun _ => ?_)) : p := h

/-! ### impl_IsSheet: function 82 -/
mutual
def impl_IsSheet.l0 : Nat → List (S90) → List (S90) → Int → Int → Option (Bool)
 | 0, _, _, _, _ => none
 | k + 1, x0, x10, x11, x12 => if x12 < x11 then (if 0 ≤ x12 then (if x12 < (x10.length : Int) then ((impl_IsHole.f ((rd_T90 x10 x12).f0) ((rd_T90 x10 x12).f1) ((rd_T90 x10 x12).f2)).bind fun Fe => (if Fe = true then (if x12 > 0 then (if 0 ≤ (wrap64 (x12 - 1)) then (if (wrap64 (x12 - 1)) < (x0.length : Int) then ((impl_holeLess.f ((rd_T90 x0 (wrap64 (x12 - 1))).f0) ((rd_T90 x0 (wrap64 (x12 - 1))).f1) ((rd_T90 x0 (wrap64 (x12 - 1))).f2) ((rd_T90 x10 x12).f0) ((rd_T90 x10 x12).f1) ((rd_T90 x10 x12).f2)).bind fun xM => (impl_IsSheet.j1 k x0 x12 x10 x11 x12 (!xM) ((rd_T90 x10 x12).f0) ((rd_T90 x10 x12).f1) ((rd_T90 x10 x12).f2))) else (none)) else (none)) else (impl_IsSheet.j1 k x0 x12 x10 x11 x12 false ((rd_T90 x10 x12).f0) ((rd_T90 x10 x12).f1) ((rd_T90 x10 x12).f2))) else (impl_IsSheet.j1 k x0 x12 x10 x11 x12 true ((rd_T90 x10 x12).f0) ((rd_T90 x10 x12).f1) ((rd_T90 x10 x12).f2)))) else (none)) else (none)) else (some true)
def impl_IsSheet.j1 : Nat → List (S90) → Int → List (S90) → Int → Int → Bool → Int → Int → Int → Option (Bool)
 | 0, _, _, _, _, _, _, _, _, _ => none
 | k + 1, x0, x3, x10, x11, x12, x33, mR, mS, oL => if x33 = true then (some false) else (if 0 ≤ x3 then (if x3 ≤ (x0.length : Int) then ((some (x0.take (x3 : Int).toNat : List (S90))).bind fun gN => (impl_IsSheet.l1 k x0 x10 x11 x12 gN (gN.length : Int) 0 mR mS oL)) else (none)) else (none))
def impl_IsSheet.l1 : Nat → List (S90) → List (S90) → Int → Int → List (S90) → Int → Int → Int → Int → Int → Option (Bool)
 | 0, _, _, _, _, _, _, _, _, _, _ => none
 | k + 1, x0, x10, x11, x12, x36, x37, x38, mR, mS, oL => if x38 < x37 then (if 0 ≤ x38 then (if x38 < (x36.length : Int) then (if ((rd_T90 x36 x38).f0) = mR then (if ((rd_T90 x36 x38).f2) ≥ mS then (some false) else (impl_IsSheet.l1 k x0 x10 x11 x12 x36 x37 (wrap64 (x38 + 1)) mR mS oL)) else (impl_IsSheet.l1 k x0 x10 x11 x12 x36 x37 (wrap64 (x38 + 1)) mR mS oL)) else (none)) else (none)) else (impl_IsSheet.l0 k x0 x10 x11 (wrap64 (x12 + 1)))
end
def impl_IsSheet.f (k : Nat) (l0 : List (S90)) : Option (Bool) := if (l0.length : Int) > 60 then (some false) else (impl_IsSheet.l0 k l0 l0 (l0.length : Int) 0)
theorem impl_IsSheet.mono_l : ∀ k, (∀ y0 y1 y2 y3, LeO (impl_IsSheet.l0 k y0 y1 y2 y3) (impl_IsSheet.l0 (k + 1) y0 y1 y2 y3)) ∧ (∀ y0 y1 y2 y3 y4 y5 y6 y7 y8, LeO (impl_IsSheet.j1 k y0 y1 y2 y3 y4 y5 y6 y7 y8) (impl_IsSheet.j1 (k + 1) y0 y1 y2 y3 y4 y5 y6 y7 y8)) ∧ (∀ y0 y1 y2 y3 y4 y5 y6 y7 y8 y9, LeO (impl_IsSheet.l1 k y0 y1 y2 y3 y4 y5 y6 y7 y8 y9) (impl_IsSheet.l1 (k + 1) y0 y1 y2 y3 y4 y5 y6 y7 y8 y9))
 | 0 => ⟨fun _ _ _ _ r h => by simp [impl_IsSheet.l0] at h, fun _ _ _ _ _ _ _ _ _ r h => by simp [impl_IsSheet.j1] at h, fun _ _ _ _ _ _ _ _ _ _ r h => by simp [impl_IsSheet.l1] at h⟩
 | k + 1 => by
  obtain ⟨ih0, ih1, ih2⟩ := impl_IsSheet.mono_l k
  refine ⟨?_, ?_, ?_⟩
  ·intro y0 y1 y2 y3
   unfold impl_IsSheet.l0
   exact mo10_
  ·intro y0 y1 y2 y3 y4 y5 y6 y7 y8
   unfold impl_IsSheet.j1
   exact mo10_
  intro y0 y1 y2 y3 y4 y5 y6 y7 y8 y9
  unfold impl_IsSheet.l1
  exact mo10_
theorem impl_IsSheet.mono : ∀ a0 k, LeO (impl_IsSheet.f k a0) (impl_IsSheet.f (k + 1) a0) := by
 intro a0 k
 obtain ⟨ih0, ih1, ih2⟩ := impl_IsSheet.mono_l k
 unfold impl_IsSheet.f
 exact mo10_
def impl_IsSheet.T6 : Bool × List (List Nat × List Nat) := (true, [([], []), ([0], [0]), ([1], [1]), ([2, 1], [2]), ([3], [3]), ([4, 3], [3, 4]), ([5, 3, 3], [3, 5]), ([6], [6]), ([6], [6]), ([8, 6], [6, 8]), ([7, 9, 6], [6, 7, 9]), ([10, 6], [6, 10]), ([6], [6]), ([11, 12, 6, 6], [6, 11, 12]), ([13, 6], [6, 13]), ([6, 14, 3], [3, 6, 14]), ([3, 15], [3, 15])])
def impl_IsSheet.B6 : List Nat := [0, 1, 3, 7, 15, 31, 63, 127, 127, 383, 1023, 2047, 127, 8191, 16383, 32767, 65535]
theorem impl_IsSheet.tab6 : rtab .any (opsOf Try.f82 6) = impl_IsSheet.T6 := by kernel_rfl
theorem impl_IsSheet.bits6 : waitsOk impl_IsSheet.T6.2 impl_IsSheet.B6 = true := by kernel_rfl
set_option maxHeartbeats 8000000 in
set_option maxRecDepth 100000 in
theorem impl_IsSheet.calls (k : Nat) (A0 : Option Addr) (c0 : Nat) (l0 : List (S90)) (r : Bool) (w : World) (hr0 : Kd.C k90 w A0 l0.length l0) (hc0 : l0.length ≤ c0) (h : impl_IsSheet.f k l0 = some r) :
  Calls Try.prog 82 #[.slice A0 l0.length c0] w fun e w' => e = .returned (.bool r) ∧ Below w.heap.size w w' := by
 have hu90 := Try.underlying90
 have HR0 := Aside0.mk hr0
 have HC0 := Aside0.mk hc0
 clear hr0 hc0
 have HB := Aside0.mk (Below.refl w.heap.size w)
 have H : (if (l0.length : Int) > 60 then (some false) else (impl_IsSheet.l0 k l0 l0 (l0.length : Int) 0)) = some r := h
 clear h
 by_cases c2 : (l0.length : Int) > 60
 ·rw [if_pos c2] at H
  have hP : decide (60 < (l0.length : Int)) = true := decide_eq_true c2
  have Cc : decide (60 < l0.length) = true := decide_eq_true (by omega)
  clear c2
  obtain rfl := Option.some.inj H
  go_enter Try.func82, Try.ntmps82
  go_wp2
  go_ret
  exact ⟨Z11, Z5⟩
 rw [if_neg c2] at H
 have hP : decide (60 < (l0.length : Int)) = false := decide_eq_false c2
 have Cc : decide (60 < l0.length) = false := decide_eq_false (by omega)
 clear c2
 have H' := Aside0.mk H
 clear H
 go_enter Try.func82, Try.ntmps82
 go_wp2
 go_loopg [12] k (fun kq I9 w' => ∃ (aM : Int), I9 = .int .i64 aM ∧ Aside0 (impl_IsSheet.l0 kq l0 l0 (l0.length : Int) aM = some r) ∧ Aside0 (kq ≤ k) ∧ Aside0 (Below w.heap.size w w'))
 case atStart => exact ⟨(0), (Z41), H', ⟨Nat.le_refl _⟩, ⟨Z5⟩⟩
 case round =>
  clear H'
  (try clear c2); (try clear hP); (try clear Cc); (try clear p2)
  obtain ⟨aM, rfl, HA, HK1, HB⟩ := hrel
  cases gk with
  | zero => exact absurd HA.out (by simp [impl_IsSheet.l0])
  | succ k1 =>
   have H := HA.out
   clear HA
   simp only [impl_IsSheet.l0] at H
   by_cases c3 : aM < (l0.length : Int)
   ·rw [if_pos c3] at H
    have f5 : decide (aM < (l0.length : Int)) = true := decide_eq_true c3
    clear c3
    by_cases c4 : 0 ≤ aM
    case neg => rw [if_neg c4] at H; exact absurd H (by simp)
    rw [if_pos c4] at H
    have go : decide (0 ≤ aM) = true := decide_eq_true c4
    clear c4
    by_cases c5 : aM < (l0.length : Int)
    case neg => rw [if_neg c5] at H; exact absurd H (by simp)
    rw [if_pos c5] at H
    have gW : decide (aM < (l0.length : Int)) = true := decide_eq_true c5
    clear c5
    have HC6 := Aside0.mk H
    clear H
    have Cd : 0 ≤ (aM : Int) := of_decide_eq_true (Z21)
    have Ce : aM < (l0.length : Int) := of_decide_eq_true (Z21)
    obtain ⟨j9, e426, oM, oN, oO⟩ := at_T90 HR0.out aM Cd Ce
    cases e426
    replace oM := (HB.out.cell (World.block_lt_of_cell? w _ oM)).trans oM
    replace oN := (HB.out.cell (World.block_lt_of_cell? w _ oN)).trans oN
    replace oO := (HB.out.cell (World.block_lt_of_cell? w _ oO)).trans oO
    replace Cd := eq_true Cd
    replace Ce := eq_true Ce
    go_upto_region 6 with ((with_reducible refine gate_dst (N := 4) rfl ?_); refine bv_ 4 90 #[.int .i64 0, .int .i64 0, .int .i64 0] ?_; intro dB hg w7 hbox hb; refine k4_ (below_step (Z5) hb) (hbox) ((Z38 : w.heap.size ≤ dB)) ((Z38 : w.heap.size ≤ dB)) ?_; clear HB; intro HB bT GW427 Dk; clear hb hbox hg; obtain ⟨fg, fh, nO, fy, fi, nP⟩ := bx3_ (w := w7) bT.out)
    (try simp only [Act.put, List.setIfInBounds_toArray, List.set_cons_zero, List.set_cons_succ])
    go_cut [33] (fun v33 wc => ∃ (kq : Nat) (wq : Bool), v33 = .bool wq ∧ Aside0 (impl_IsSheet.j1 kq l0 aM l0 (l0.length : Int) aM wq ((rd_T90 l0 aM).f0) ((rd_T90 l0 aM).f1) ((rd_T90 l0 aM).f2) = some r) ∧ Aside0 (kq ≤ k1) ∧ Aside0 (wc.heap[dB]? = some (.cells #[.int .i64 ((rd_T90 l0 aM).f0), .int .i64 ((rd_T90 l0 aM).f1), .int .i64 ((rd_T90 l0 aM).f2)] 90 (0, 0))) ∧ Aside0 (Below w.heap.size w wc))
    case first =>
     have H := HC6.out
     clear HC6
     obtain ⟨Fe, A9, H⟩ := bd_ H
     (try dsimp only at H)
     by_cases c10 : Fe = true
     ·subst c10
      rw [if_pos rfl] at H
      by_cases c11 : aM > 0
      ·rw [if_pos c11] at H
       have iY : decide (0 < aM) = true := decide_eq_true c11
       clear c11
       (first | rw [iY] | (simp only [i64_w, i32_w]; rw [iY]) | skip)
       obtain ⟨gu, hji12⟩ : ∃ j_ : Int, (wrap64 (aM - 1)) = j_ := ⟨_, rfl⟩
       replace H : (if 0 ≤ (gu) then (if (gu) < (l0.length : Int) then ((impl_holeLess.f ((rd_T90 l0 (gu)).f0) ((rd_T90 l0 (gu)).f1) ((rd_T90 l0 (gu)).f2) ((rd_T90 l0 aM).f0) ((rd_T90 l0 aM).f1) ((rd_T90 l0 aM).f2)).bind fun xM => (impl_IsSheet.j1 k1 l0 aM l0 (l0.length : Int) aM (!xM) ((rd_T90 l0 aM).f0) ((rd_T90 l0 aM).f1) ((rd_T90 l0 aM).f2))) else (none)) else (none)) = some r := by first | (rw [hji12] at H; exact H) | (simp only [hji12] at H ⊢; exact H)
       (try rw [hji12] at A9)
       have hji12w : (IntKind.i64.wrap (aM - 1)) = gu := (i64_w _).trans hji12
       by_cases c13 : 0 ≤ (gu)
       case neg => rw [if_neg c13] at H; exact absurd H (by simp)
       rw [if_pos c13] at H
       have yY : decide (0 ≤ (gu)) = true := decide_eq_true c13
       clear c13
       by_cases c14 : (gu) < (l0.length : Int)
       case neg => rw [if_neg c14] at H; exact absurd H (by simp)
       rw [if_pos c14] at H
       have qM : decide ((gu) < (l0.length : Int)) = true := decide_eq_true c14
       clear c14
       obtain ⟨xM, Ff, H⟩ := bd_ H
       (try dsimp only at H)
       have H' := Aside0.mk H
       clear H
       try go_wp2
       have n0_ : Aside0 ((((w7.setCell ⟨dB, 0, none⟩ (.int .i64 ((rd_T90 l0 aM).f0))).setCell ⟨dB, 1, none⟩ (.int .i64 ((rd_T90 l0 aM).f1))).setCell ⟨dB, 2, none⟩ (.int .i64 ((rd_T90 l0 aM).f2))).heap[dB]? = some (.cells #[.int .i64 ((rd_T90 l0 aM).f0), .int .i64 ((rd_T90 l0 aM).f1), .int .i64 ((rd_T90 l0 aM).f2)] 90 (0, 0))) := ⟨Z68 bT⟩
       have n1_ : Aside0 (Below w.heap.size w (((w7.setCell ⟨dB, 0, none⟩ (.int .i64 ((rd_T90 l0 aM).f0))).setCell ⟨dB, 1, none⟩ (.int .i64 ((rd_T90 l0 aM).f1))).setCell ⟨dB, 2, none⟩ (.int .i64 ((rd_T90 l0 aM).f2)))) := ⟨Z57⟩
       (try clear bT)
       (try clear HB)
       generalize (((w7.setCell ⟨dB, 0, none⟩ (.int .i64 ((rd_T90 l0 aM).f0))).setCell ⟨dB, 1, none⟩ (.int .i64 ((rd_T90 l0 aM).f1))).setCell ⟨dB, 2, none⟩ (.int .i64 ((rd_T90 l0 aM).f2))) = mT at n0_ n1_ ⊢
       have bT := n0_
       have HB := n1_
       clear n0_ n1_
       refine k2_ (blk_drew bT.out) (below_drew1 HB.out) ?_
       clear bT HB
       intro bT HB
       have Cf : 0 ≤ ((gu) : Int) := of_decide_eq_true (Z21)
       have Cg : (gu) < (l0.length : Int) := of_decide_eq_true (Z21)
       obtain ⟨ad429, e429, lD, lE, lF⟩ := at_T90 HR0.out (gu) Cf Cg
       have hw429_2 := lF
       have hw429_1 := lE
       have hw429_0 := lD
       obtain rfl : j9 = ad429 := (by injection e429)
       replace lD := (HB.out.cell (World.block_lt_of_cell? w _ lD)).trans lD
       replace lE := (HB.out.cell (World.block_lt_of_cell? w _ lE)).trans lE
       replace lF := (HB.out.cell (World.block_lt_of_cell? w _ lF)).trans lF
       replace Cf := eq_true Cf
       replace Cg := eq_true Cg
       refine start_ (n := 17) (S := fun w' => w'.cell? ⟨dB, 0, none⟩ = some (.int .i64 ((rd_T90 l0 aM).f0)) ∧ w'.cell? ⟨dB, 1, none⟩ = some (.int .i64 ((rd_T90 l0 aM).f1)) ∧ w'.cell? ⟨dB, 2, none⟩ = some (.int .i64 ((rd_T90 l0 aM).f2)) ∧ w'.cell? (j9.add (((gu)).toNat * 3)) = some (.int .i64 ((rd_T90 l0 (gu)).f0)) ∧ w'.cell? ⟨(j9.add (((gu)).toNat * 3)).block, (j9.add (((gu)).toNat * 3)).off + 1, none⟩ = some (.int .i64 ((rd_T90 l0 (gu)).f1)) ∧ w'.cell? ⟨(j9.add (((gu)).toNat * 3)).block, (j9.add (((gu)).toNat * 3)).off + 2, none⟩ = some (.int .i64 ((rd_T90 l0 (gu)).f2))) (ds := []) (M_ 0 17) (by kernel_rfl) rfl rfl ⟨(blk_cell bT.out 0).trans rfl, (blk_cell bT.out 1).trans rfl, (blk_cell bT.out 2).trans rfl, ((HB.out.cell (World.block_lt_of_cell? w _ hw429_0)).trans hw429_0), ((HB.out.cell (World.block_lt_of_cell? w _ hw429_1)).trans hw429_1), ((HB.out.cell (World.block_lt_of_cell? w _ hw429_2)).trans hw429_2)⟩ (fun hHeld => ?_); refine with_tabW impl_IsSheet.tab6 impl_IsSheet.bits6 (fun HT_ HW_ => ?_)
       generalize mT.drew = ws at bT HB lD lE lF hHeld ⊢
       refine tk6_ 0 17 (M_ 1 16) hHeld ?_
       refine one_ (i := 1) (N := some 18) (M_ 2 15) rfl rfl (one_of HT_.out (by kernel_rfl)) (by decide) (fun K hK => ?_)
       refine goes_ Try.func106 (by kernel_rfl) rfl #[.agg #[.int .i64 ((rd_T90 l0 aM).f0), .int .i64 ((rd_T90 l0 aM).f1), .int .i64 ((rd_T90 l0 aM).f2)]] (by rfl) rfl rfl (Z107) ?_
       with_reducible refine (impl_IsHole.calls ((rd_T90 l0 aM).f0) ((rd_T90 l0 aM).f1) ((rd_T90 l0 aM).f2) true _ A9.out).mono ?_
       rintro e B2 ⟨rfl, hb⟩
       refine ⟨_, rfl, ?_⟩
       have n0_ := Aside0.mk (Ye_ bT)
       have n1_ := Aside0.mk (below_step (Z57) hb)
       clear bT
       clear HB
       have bT := n0_
       have HB := n1_
       clear n0_ n1_
       (try clear hb)
       (try clear hb2)
       (try clear hk)
       (try clear hi)
       refine hK.out _ _ ⟨(blk_cell bT.out 0).trans rfl, (blk_cell bT.out 1).trans rfl, (blk_cell bT.out 2).trans rfl, ((HB.out.cell (World.block_lt_of_cell? w _ hw429_0)).trans hw429_0), ((HB.out.cell (World.block_lt_of_cell? w _ hw429_1)).trans hw429_1), ((HB.out.cell (World.block_lt_of_cell? w _ hw429_2)).trans hw429_2)⟩ (fun hHeld => ?_)
       clear hK K
       refine norm_ (a' := ?_) ?_ ?_
       rotate_left
       ·show Act.put _ (some 18) _ = _
        simp only [Act.put, List.setIfInBounds_toArray, List.set_cons_zero, List.set_cons_succ, i64_w, i32_w]
        rfl
       refine pu_ 2 19 (M_ 3 14) ?_
       refine pu_ 3 20 (M_ 4 13) ?_
       refine pu_ 4 21 (M_ 5 12) ?_
       refine pu_ 5 22 (M_ 6 11) ?_
       refine pu_ 6 23 (M_ 7 10) ?_
       refine pu_ 7 24 (M_ 8 9) ?_
       refine pu_ 8 25 (M_ 9 8) ?_
       refine pu_ 9 26 (M_ 10 7) ?_
       refine pu_ 10 27 (M_ 11 6) ?_
       refine tk6_ 11 28 (M_ 12 5) hHeld ?_
       refine tk6_ 12 29 (M_ 13 4) hHeld ?_
       refine one_ (i := 13) (N := some 30) (M_ 14 3) rfl rfl (one_of HT_.out (by kernel_rfl)) (by decide) (fun K hK => ?_)
       refine goes_ Try.func107 (by kernel_rfl) rfl #[.agg #[.int .i64 ((rd_T90 l0 (gu)).f0), .int .i64 ((rd_T90 l0 (gu)).f1), .int .i64 ((rd_T90 l0 (gu)).f2)], .agg #[.int .i64 ((rd_T90 l0 aM).f0), .int .i64 ((rd_T90 l0 aM).f1), .int .i64 ((rd_T90 l0 aM).f2)]] (by rfl) rfl rfl (by (try simp only [List.map_toArray, List.map_cons, List.map_nil]); first | done | (simp only [hji12]; rfl) | rfl | (simp only [List.length_drop, List.length_take]; rfl)) ?_
       with_reducible refine (impl_holeLess.calls ((rd_T90 l0 (gu)).f0) ((rd_T90 l0 (gu)).f1) ((rd_T90 l0 (gu)).f2) ((rd_T90 l0 aM).f0) ((rd_T90 l0 aM).f1) ((rd_T90 l0 aM).f2) xM _ Ff.out).mono ?_
       rintro e yZ ⟨rfl, hb⟩
       refine ⟨_, rfl, ?_⟩
       have n0_ := Aside0.mk (Ye_ bT)
       have n1_ := Aside0.mk (below_step (Z57) hb)
       clear bT
       clear HB
       have bT := n0_
       have HB := n1_
       clear n0_ n1_
       refine hK.out _ _ ⟨(blk_cell bT.out 0).trans rfl, (blk_cell bT.out 1).trans rfl, (blk_cell bT.out 2).trans rfl, ((HB.out.cell (World.block_lt_of_cell? w _ hw429_0)).trans hw429_0), ((HB.out.cell (World.block_lt_of_cell? w _ hw429_1)).trans hw429_1), ((HB.out.cell (World.block_lt_of_cell? w _ hw429_2)).trans hw429_2)⟩ (fun hHeld => ?_)
       clear hK K
       refine norm_ (a' := ?_) ?_ ?_
       rotate_left
       ·show Act.put _ (some 30) _ = _
        simp only [Act.put, List.setIfInBounds_toArray, List.set_cons_zero, List.set_cons_succ, i64_w, i32_w]
        rfl
       refine pu_ 14 31 (M_ 15 2) ?_
       refine pu_ 15 32 (M_ 16 1) ?_
       refine pu_ 16 33 (M_ 17 0) ?_
       refine done_ (done_of HT_.out (by kernel_rfl)) ?_
       try go_wp2
       go_meet
       case rel => exact ⟨_, (!xM), (Z41), H', ⟨Z186 HK1⟩, ⟨Z1 bT⟩, ⟨Z57⟩⟩
      rw [if_neg c11] at H
      have iY : decide (0 < aM) = false := decide_eq_false c11
      clear c11
      (first | rw [iY] | (simp only [i64_w, i32_w]; rw [iY]) | skip)
      have H' := Aside0.mk H
      clear H
      try go_wp2
      have n0_ : Aside0 ((((w7.setCell ⟨dB, 0, none⟩ (.int .i64 ((rd_T90 l0 aM).f0))).setCell ⟨dB, 1, none⟩ (.int .i64 ((rd_T90 l0 aM).f1))).setCell ⟨dB, 2, none⟩ (.int .i64 ((rd_T90 l0 aM).f2))).heap[dB]? = some (.cells #[.int .i64 ((rd_T90 l0 aM).f0), .int .i64 ((rd_T90 l0 aM).f1), .int .i64 ((rd_T90 l0 aM).f2)] 90 (0, 0))) := ⟨Z68 bT⟩
      have n1_ : Aside0 (Below w.heap.size w (((w7.setCell ⟨dB, 0, none⟩ (.int .i64 ((rd_T90 l0 aM).f0))).setCell ⟨dB, 1, none⟩ (.int .i64 ((rd_T90 l0 aM).f1))).setCell ⟨dB, 2, none⟩ (.int .i64 ((rd_T90 l0 aM).f2)))) := ⟨Z57⟩
      (try clear bT)
      (try clear HB)
      generalize (((w7.setCell ⟨dB, 0, none⟩ (.int .i64 ((rd_T90 l0 aM).f0))).setCell ⟨dB, 1, none⟩ (.int .i64 ((rd_T90 l0 aM).f1))).setCell ⟨dB, 2, none⟩ (.int .i64 ((rd_T90 l0 aM).f2))) = ss at n0_ n1_ ⊢
      have bT := n0_
      have HB := n1_
      clear n0_ n1_
      refine k2_ (blk_drew bT.out) (below_drew1 HB.out) ?_
      clear bT HB
      intro bT HB
      refine start_ (n := 17) (S := fun w' => w'.cell? ⟨dB, 0, none⟩ = some (.int .i64 ((rd_T90 l0 aM).f0)) ∧ w'.cell? ⟨dB, 1, none⟩ = some (.int .i64 ((rd_T90 l0 aM).f1)) ∧ w'.cell? ⟨dB, 2, none⟩ = some (.int .i64 ((rd_T90 l0 aM).f2))) (ds := []) (M_ 0 17) (by kernel_rfl) rfl rfl ⟨(blk_cell bT.out 0).trans rfl, (blk_cell bT.out 1).trans rfl, (blk_cell bT.out 2).trans rfl⟩ (fun hHeld => ?_); refine with_tabW impl_IsSheet.tab6 impl_IsSheet.bits6 (fun HT_ HW_ => ?_)
      generalize ss.drew = DD at bT HB hHeld ⊢
      refine tk3_ 0 17 (M_ 1 16) hHeld ?_
      refine one_ (i := 1) (N := some 18) (M_ 2 15) rfl rfl (one_of HT_.out (by kernel_rfl)) (by decide) (fun K hK => ?_)
      refine goes_ Try.func106 (by kernel_rfl) rfl #[.agg #[.int .i64 ((rd_T90 l0 aM).f0), .int .i64 ((rd_T90 l0 aM).f1), .int .i64 ((rd_T90 l0 aM).f2)]] (by rfl) rfl rfl (Z107) ?_
      with_reducible refine (impl_IsHole.calls ((rd_T90 l0 aM).f0) ((rd_T90 l0 aM).f1) ((rd_T90 l0 aM).f2) true _ A9.out).mono ?_
      rintro e iU ⟨rfl, hb⟩
      refine ⟨_, rfl, ?_⟩
      have n0_ := Aside0.mk (Ye_ bT)
      have n1_ := Aside0.mk (below_step (Z57) hb)
      clear bT
      clear HB
      have bT := n0_
      have HB := n1_
      clear n0_ n1_
      (try clear hb)
      (try clear hb2)
      (try clear hk)
      (try clear hi)
      refine hK.out _ _ ⟨(blk_cell bT.out 0).trans rfl, (blk_cell bT.out 1).trans rfl, (blk_cell bT.out 2).trans rfl⟩ (fun hHeld => ?_)
      clear hK K
      refine norm_ (a' := ?_) ?_ ?_
      rotate_left
      ·show Act.put _ (some 18) _ = _
       simp only [Act.put, List.setIfInBounds_toArray, List.set_cons_zero, List.set_cons_succ, i64_w, i32_w]
       rfl
      refine pu_ 2 19 (M_ 3 14) ?_
      refine pu_ 3 20 (M_ 4 13) ?_
      refine pu_ 4 21 (M_ 5 12) ?_
      refine pu_ 5 22 (M_ 6 11) ?_
      refine pu_ 6 23 (M_ 7 10) ?_
      refine pn_ 7 24 (M_ 8 9) ?_
      refine pn_ 8 25 (M_ 9 8) ?_
      refine pn_ 9 26 (M_ 10 7) ?_
      refine pn_ 10 27 (M_ 11 6) ?_
      refine pn_ 11 28 (M_ 12 5) ?_
      refine pn_ 12 29 (M_ 13 4) ?_
      refine pn_ 13 30 (M_ 14 3) ?_
      refine pn_ 14 31 (M_ 15 2) ?_
      refine pu_ 15 32 (M_ 16 1) ?_
      refine pu_ 16 33 (M_ 17 0) ?_
      refine done_ (done_of HT_.out (by kernel_rfl)) ?_
      try go_wp2
      go_meet
      case rel => exact ⟨_, (false), (Z41), H', ⟨Z186 HK1⟩, ⟨Z1 bT⟩, ⟨Z57⟩⟩
     replace c10 := Bool.eq_false_iff.mpr c10
     subst c10
     rw [if_neg (show ¬ (false = true) by decide)] at H
     have H' := Aside0.mk H
     clear H
     try go_wp2
     have n0_ : Aside0 ((((w7.setCell ⟨dB, 0, none⟩ (.int .i64 ((rd_T90 l0 aM).f0))).setCell ⟨dB, 1, none⟩ (.int .i64 ((rd_T90 l0 aM).f1))).setCell ⟨dB, 2, none⟩ (.int .i64 ((rd_T90 l0 aM).f2))).heap[dB]? = some (.cells #[.int .i64 ((rd_T90 l0 aM).f0), .int .i64 ((rd_T90 l0 aM).f1), .int .i64 ((rd_T90 l0 aM).f2)] 90 (0, 0))) := ⟨Z68 bT⟩
     have n1_ : Aside0 (Below w.heap.size w (((w7.setCell ⟨dB, 0, none⟩ (.int .i64 ((rd_T90 l0 aM).f0))).setCell ⟨dB, 1, none⟩ (.int .i64 ((rd_T90 l0 aM).f1))).setCell ⟨dB, 2, none⟩ (.int .i64 ((rd_T90 l0 aM).f2)))) := ⟨Z57⟩
     (try clear bT)
     (try clear HB)
     generalize (((w7.setCell ⟨dB, 0, none⟩ (.int .i64 ((rd_T90 l0 aM).f0))).setCell ⟨dB, 1, none⟩ (.int .i64 ((rd_T90 l0 aM).f1))).setCell ⟨dB, 2, none⟩ (.int .i64 ((rd_T90 l0 aM).f2))) = st at n0_ n1_ ⊢
     have bT := n0_
     have HB := n1_
     clear n0_ n1_
     refine k2_ (blk_drew bT.out) (below_drew1 HB.out) ?_
     clear bT HB
     intro bT HB
     refine start_ (n := 17) (S := fun w' => w'.cell? ⟨dB, 0, none⟩ = some (.int .i64 ((rd_T90 l0 aM).f0)) ∧ w'.cell? ⟨dB, 1, none⟩ = some (.int .i64 ((rd_T90 l0 aM).f1)) ∧ w'.cell? ⟨dB, 2, none⟩ = some (.int .i64 ((rd_T90 l0 aM).f2))) (ds := []) (M_ 0 17) (by kernel_rfl) rfl rfl ⟨(blk_cell bT.out 0).trans rfl, (blk_cell bT.out 1).trans rfl, (blk_cell bT.out 2).trans rfl⟩ (fun hHeld => ?_); refine with_tabW impl_IsSheet.tab6 impl_IsSheet.bits6 (fun HT_ HW_ => ?_)
     generalize st.drew = fE at bT HB hHeld ⊢
     refine tk3_ 0 17 (M_ 1 16) hHeld ?_
     refine one_ (i := 1) (N := some 18) (M_ 2 15) rfl rfl (one_of HT_.out (by kernel_rfl)) (by decide) (fun K hK => ?_)
     refine goes_ Try.func106 (by kernel_rfl) rfl #[.agg #[.int .i64 ((rd_T90 l0 aM).f0), .int .i64 ((rd_T90 l0 aM).f1), .int .i64 ((rd_T90 l0 aM).f2)]] (by rfl) rfl rfl (Z107) ?_
     with_reducible refine (impl_IsHole.calls ((rd_T90 l0 aM).f0) ((rd_T90 l0 aM).f1) ((rd_T90 l0 aM).f2) false _ A9.out).mono ?_
     rintro e qN ⟨rfl, hb⟩
     refine ⟨_, rfl, ?_⟩
     have n0_ := Aside0.mk (Ye_ bT)
     have n1_ := Aside0.mk (below_step (Z57) hb)
     clear bT
     clear HB
     have bT := n0_
     have HB := n1_
     clear n0_ n1_
     (try clear hb)
     (try clear hb2)
     (try clear hk)
     (try clear hi)
     refine hK.out _ _ ⟨(blk_cell bT.out 0).trans rfl, (blk_cell bT.out 1).trans rfl, (blk_cell bT.out 2).trans rfl⟩ (fun hHeld => ?_)
     clear hK K
     refine norm_ (a' := ?_) ?_ ?_
     rotate_left
     ·show Act.put _ (some 18) _ = _
      simp only [Act.put, List.setIfInBounds_toArray, List.set_cons_zero, List.set_cons_succ, i64_w, i32_w]
      rfl
     refine pu_ 2 19 (M_ 3 14) ?_
     refine pu_ 3 20 (M_ 4 13) ?_
     refine pn_ 4 21 (M_ 5 12) ?_
     refine pn_ 5 22 (M_ 6 11) ?_
     refine pn_ 6 23 (M_ 7 10) ?_
     refine pn_ 7 24 (M_ 8 9) ?_
     refine pn_ 8 25 (M_ 9 8) ?_
     refine pn_ 9 26 (M_ 10 7) ?_
     refine pn_ 10 27 (M_ 11 6) ?_
     refine pn_ 11 28 (M_ 12 5) ?_
     refine pn_ 12 29 (M_ 13 4) ?_
     refine pn_ 13 30 (M_ 14 3) ?_
     refine pn_ 14 31 (M_ 15 2) ?_
     refine pn_ 15 32 (M_ 16 1) ?_
     refine pu_ 16 33 (M_ 17 0) ?_
     refine done_ (done_of HT_.out (by kernel_rfl)) ?_
     try go_wp2
     go_meet
     case rel => exact ⟨_, (true), (Z41), H', ⟨Z186 HK1⟩, ⟨Z1 bT⟩, ⟨Z57⟩⟩
    case rest =>
     clear HC6
     (try clear c1); (try clear c3); (try clear f5); (try clear c4); (try clear go); (try clear p4); (try clear q4); (try clear hx4); (try clear c5); (try clear gW); (try clear p6); (try clear c8); (try clear c10); (try clear c11); (try clear iY); (try clear c13); (try clear yY); (try clear c14); (try clear qM); (try clear fg); (try clear fh); (try clear nO); (try clear fy); (try clear fi); (try clear nP); (try clear oM); (try clear oN); (try clear oO); (try clear lD); (try clear lE); (try clear lF); (try clear Cd); (try clear Cf); (try clear Ce); (try clear Cg)
     obtain ⟨kq, wq, rfl, HA, IT, bT, HB⟩ := hcut
     cases kq with
     | zero => exact absurd HA.out (by simp [impl_IsSheet.j1])
     | succ Ja =>
      have H := HA.out
      clear HA
      simp only [impl_IsSheet.j1] at H
      by_cases c26 : wq = true
      ·subst c26
       rw [if_pos rfl] at H
       obtain rfl := Option.some.inj H
       go_wp2
       go_ret
       exact ⟨Z11, Z57⟩
      replace c26 := Bool.eq_false_iff.mpr c26
      subst c26
      rw [if_neg (show ¬ (false = true) by decide)] at H
      by_cases c27 : 0 ≤ aM
      case neg => rw [if_neg c27] at H; exact absurd H (by simp)
      rw [if_pos c27] at H
      have iZ := eq_true c27
      have qO : decide (0 ≤ aM) = true := decide_eq_true c27
      clear c27
      by_cases c28 : aM ≤ (l0.length : Int)
      case neg => rw [if_neg c28] at H; exact absurd H (by simp)
      rw [if_pos c28] at H
      have qP := eq_true c28
      have c28b1 : decide (aM ≤ (l0.length : Int)) = true := decide_eq_true c28
      clear c28
      obtain ⟨gN, su⟩ : ∃ y_ : List (S90), y_ = (l0.take (aM : Int).toNat) := ⟨_, rfl⟩
      replace H : (impl_IsSheet.l1 Ja l0 l0 (l0.length : Int) aM gN (gN.length : Int) 0 ((rd_T90 l0 aM).f0) ((rd_T90 l0 aM).f1) ((rd_T90 l0 aM).f2)) = some r := hx_ su H
      have DE := Aside0.mk su
      clear su
      have H' := Aside0.mk H
      clear H
      have IV : (aM : Int) ≤ ((l0.length : Int) : Int) := of_decide_eq_true (Z21)
      obtain ⟨i029, hi029, _, hsz29, _⟩ := info_parts info90
      have hroom29 : l0.length ≤ c0 := HC0.out
      have hC29 : Kd.C k90 _ (some j9) l0.length l0 := HR0.out
      have hcut29 := cut_to (P := Try.prog) 42 90 .i64 Try.underlying42 hi029 (some j9) l0.length c0 aM (of_decide_eq_true (Z21)) IV hroom29
      have hr29 := Kd.C_take (m := (aM : Int).toNat) hC29 (by omega)
      have Fg : gN.length = (aM : Int).toNat := (Z263 DE)
      rw [← DE.out] at hr29
      rw [← Fg] at hcut29
      have HR434 := Aside0.mk hr29
      have HC434 := Aside0.mk (show gN.length ≤ c0 from by omega)
      clear hr29 hC29 hroom29 hi029 hsz29
      have KY29 := Aside0.mk Fg
      clear Fg
      replace IV := eq_true IV
      go_wp2
      go_loopg [38] Ja (fun kq v38 w' => ∃ (eX : Int), v38 = .int .i64 eX ∧ Aside0 (impl_IsSheet.l1 kq l0 l0 (l0.length : Int) aM gN (gN.length : Int) eX ((rd_T90 l0 aM).f0) ((rd_T90 l0 aM).f1) ((rd_T90 l0 aM).f2) = some r) ∧ Aside0 (kq ≤ Ja) ∧ Aside0 (w'.heap[dB]? = some (.cells #[.int .i64 ((rd_T90 l0 aM).f0), .int .i64 ((rd_T90 l0 aM).f1), .int .i64 ((rd_T90 l0 aM).f2)] 90 (0, 0))) ∧ Aside0 (Below w.heap.size w w'))
      case atStart => exact ⟨(0), (Z41), H', ⟨Nat.le_refl _⟩, ⟨Z1 bT⟩, ⟨Z57⟩⟩
      case round =>
       clear H'
       (try clear q2); (try clear c26); (try clear c27); (try clear iZ); (try clear qO); (try clear c28); (try clear qP); (try clear c28b1); (try clear IV)
       obtain ⟨eX, rfl, HA, HK3, bT, HB⟩ := hrel
       cases gk with
       | zero => exact absurd HA.out (by simp [impl_IsSheet.l1])
       | succ k3 =>
        have H := HA.out
        clear HA
        simp only [impl_IsSheet.l1] at H
        by_cases c30 : eX < (gN.length : Int)
        ·rw [if_pos c30] at H
         have wt : decide (eX < (gN.length : Int)) = true := decide_eq_true c30
         clear c30
         by_cases c31 : 0 ≤ eX
         case neg => rw [if_neg c31] at H; exact absurd H (by simp)
         rw [if_pos c31] at H
         have c31b0 : decide (0 ≤ eX) = true := decide_eq_true c31
         clear c31
         by_cases c32 : eX < (gN.length : Int)
         case neg => rw [if_neg c32] at H; exact absurd H (by simp)
         rw [if_pos c32] at H
         have DF : decide (eX < (gN.length : Int)) = true := decide_eq_true c32
         clear c32
         by_cases c33 : ((rd_T90 gN eX).f0) = ((rd_T90 l0 aM).f0)
         ·rw [if_pos c33] at H
          have za : (((rd_T90 gN eX).f0) == ((rd_T90 l0 aM).f0)) = true := beq_iff_eq.mpr c33
          have c33b1 : (((rd_T90 gN eX).f0) != ((rd_T90 l0 aM).f0)) = false := bne_eq_false_iff_eq.mpr c33
          clear c33
          by_cases c34 : ((rd_T90 gN eX).f2) ≥ ((rd_T90 l0 aM).f1)
          ·rw [if_pos c34] at H
           have c34b0 : decide (((rd_T90 l0 aM).f1) ≤ ((rd_T90 gN eX).f2)) = true := decide_eq_true c34
           clear c34
           obtain rfl := Option.some.inj H
           have pk : 0 ≤ (eX : Int) := of_decide_eq_true (Z21)
           have pl : eX < (gN.length : Int) := of_decide_eq_true (Z21)
           obtain ⟨sv, e435, f7, f8, f9⟩ := at_T90 HR434.out eX pk pl
           obtain rfl : j9 = sv := (by injection e435)
           replace f7 := (HB.out.cell (World.block_lt_of_cell? w _ f7)).trans f7
           replace f8 := (HB.out.cell (World.block_lt_of_cell? w _ f8)).trans f8
           replace f9 := (HB.out.cell (World.block_lt_of_cell? w _ f9)).trans f9
           replace pk := eq_true pk
           replace pl := eq_true pl
           go_wp2_with ((with_reducible refine gate_dst (N := 6) rfl ?_); refine bv_ 6 90 #[.int .i64 0, .int .i64 0, .int .i64 0] ?_; intro iu hg qQ hbox hb; refine k7_ (Ye_ bT) (below_step (Z57) hb) (hbox) ((Z249 : w.heap.size ≤ iu)) ((Z249 : w.heap.size ≤ iu)) ((Z204 : dB ≠ iu)) ((Z205 : iu ≠ dB)) ?_; clear bT HB; intro bT HB sw DG yN fY i1; clear hb hbox hg; have hnb36 := i1.out; have hnc36 := fY.out; obtain ⟨wu, wv, hcz37_2, ww, wx, hfz37_2⟩ := bx3_ (w := qQ) sw.out; obtain ⟨hcz38_0, hcz38_1, hcz38_2, hfz38_0, hfz38_1, hfz38_2⟩ := bx3_ (w := qQ) bT.out)
           go_ret
           exact ⟨Z11, Z203⟩
          rw [if_neg c34] at H
          have c34b0 : decide (((rd_T90 l0 aM).f1) ≤ ((rd_T90 gN eX).f2)) = false := decide_eq_false c34
          clear c34
          have H' := Aside0.mk H
          clear H
          have pk : 0 ≤ (eX : Int) := of_decide_eq_true (Z21)
          have pl : eX < (gN.length : Int) := of_decide_eq_true (Z21)
          obtain ⟨sv, e435, f7, f8, f9⟩ := at_T90 HR434.out eX pk pl
          obtain rfl : j9 = sv := (by injection e435)
          replace f7 := (HB.out.cell (World.block_lt_of_cell? w _ f7)).trans f7
          replace f8 := (HB.out.cell (World.block_lt_of_cell? w _ f8)).trans f8
          replace f9 := (HB.out.cell (World.block_lt_of_cell? w _ f9)).trans f9
          replace pk := eq_true pk
          replace pl := eq_true pl
          go_wp2_with ((with_reducible refine gate_dst (N := 6) rfl ?_); refine bv_ 6 90 #[.int .i64 0, .int .i64 0, .int .i64 0] ?_; intro iu hg Fh hbox hb; refine k7_ (Ye_ bT) (below_step (Z57) hb) (hbox) ((Z249 : w.heap.size ≤ iu)) ((Z249 : w.heap.size ≤ iu)) ((Z204 : dB ≠ iu)) ((Z205 : iu ≠ dB)) ?_; clear bT HB; intro bT HB sw DG yN fY i1; clear hb hbox hg; have hnb40 := i1.out; have hnc40 := fY.out; obtain ⟨oP, oQ, hcz41_2, oR, oS, hfz41_2⟩ := bx3_ (w := Fh) sw.out; obtain ⟨hcz42_0, hcz42_1, hcz42_2, hfz42_0, hfz42_1, hfz42_2⟩ := bx3_ (w := Fh) bT.out)
          go_roundg k3
          case measure => have := HK1.out; have := IT.out; have := HK3.out; omega
          case rel => exact ⟨(wrap64 (eX + 1)), (Z41), H', ⟨Z271⟩, ⟨Z172⟩, ⟨Z203⟩⟩
         rw [if_neg c33] at H
         have za : (((rd_T90 gN eX).f0) == ((rd_T90 l0 aM).f0)) = false := beq_eq_false_iff_ne.mpr c33
         have c33b1 : (((rd_T90 gN eX).f0) != ((rd_T90 l0 aM).f0)) = true := bne_iff_ne.mpr c33
         have H' := Aside0.mk H
         clear H
         have pk : 0 ≤ (eX : Int) := of_decide_eq_true (Z21)
         have pl : eX < (gN.length : Int) := of_decide_eq_true (Z21)
         obtain ⟨sv, e435, f7, f8, f9⟩ := at_T90 HR434.out eX pk pl
         obtain rfl : j9 = sv := (by injection e435)
         replace f7 := (HB.out.cell (World.block_lt_of_cell? w _ f7)).trans f7
         replace f8 := (HB.out.cell (World.block_lt_of_cell? w _ f8)).trans f8
         replace f9 := (HB.out.cell (World.block_lt_of_cell? w _ f9)).trans f9
         replace pk := eq_true pk
         replace pl := eq_true pl
         go_wp2_with ((with_reducible refine gate_dst (N := 6) rfl ?_); refine bv_ 6 90 #[.int .i64 0, .int .i64 0, .int .i64 0] ?_; intro iu hg GN hbox hb; refine k7_ (Ye_ bT) (below_step (Z57) hb) (hbox) ((Z249 : w.heap.size ≤ iu)) ((Z249 : w.heap.size ≤ iu)) ((Z204 : dB ≠ iu)) ((Z205 : iu ≠ dB)) ?_; clear bT HB; intro bT HB sw DG yN fY i1; clear hb hbox hg; have hnb44 := i1.out; have hnc44 := fY.out; obtain ⟨hcz45_0, hcz45_1, hcz45_2, hfz45_0, hfz45_1, hfz45_2⟩ := bx3_ (w := GN) sw.out; obtain ⟨hcz46_0, hcz46_1, hcz46_2, hfz46_0, hfz46_1, hfz46_2⟩ := bx3_ (w := GN) bT.out)
         go_roundg k3
         case measure => have := HK1.out; have := IT.out; have := HK3.out; omega
         case rel => exact ⟨(wrap64 (eX + 1)), (Z41), H', ⟨Z271⟩, ⟨Z172⟩, ⟨Z203⟩⟩
        rw [if_neg c30] at H
        have wt : decide (eX < (gN.length : Int)) = false := decide_eq_false c30
        clear c30
        have H' := Aside0.mk H
        clear H
        go_wp2
        go_roundg k3
        case measure => have := HK1.out; have := IT.out; have := HK3.out; omega
        case rel => exact ⟨(wrap64 (aM + 1)), (Z41), H', ⟨Z271⟩, ⟨Z57⟩⟩
   rw [if_neg c3] at H
   have f5 : decide (aM < (l0.length : Int)) = false := decide_eq_false c3
   clear c3
   obtain rfl := Option.some.inj H
   go_wp2
   go_ret
   exact ⟨Z11, Z5⟩

end Go.Proofs.Ytmnnmddfmmaohaa.PFnPunchJobs
