-- written by a program of this session: the kit's print, with outer functions of the session's own (wip/ext)
import Derived.Test.YtmnnmddfmmaohaaPFnPunchJobsx0
import Derived.Test.YtmnnmddfmmaohaaPFnPunchJobsx2
import Derived.Test.YtmnnmddfmmaohaaPFnPunchJobsx4
import Derived.Test.YtmnnmddfmmaohaaPFnPunchJobsx6
import Derived.Test.YtmnnmddfmmaohaaPFnPunchJobsx7
namespace Go.Proofs.Ytmnnmddfmmaohaa.PFnPunchJobs
open Go.RowKit Go.Proofs.YtmnnmddfmmaohaaW.PrintWords Go.Proofs.YtmnnmddfmmaohaaW.PrintLast Go.Proofs.YtmnnmddfmmaohaaW.PrintMore
attribute [local go_sem] max2_int min2_int max_two min_two max_three min_three max_four min_four   -- for this text's walks alone
set_option linter.unusedVariables false
set_option linter.unusedSimpArgs false
theorem mo8_ {p : Prop} (h : p := by repeat' first | (with_reducible first | apply ih0 | apply ih0 | apply ih1 | apply ih1 | apply ih2 | apply ih2 | apply spec_l1Cur_anySheet.mono | apply spec_l1Cur_anySheet.mono | apply spec_l1Cur_sheet.mono | apply spec_l1Cur_sheet.mono | apply spec_shWith.mono | apply spec_shWith.mono | exact LeO.refl _ | exact LeO.none _ | refine LeO.ite ?_ ?_ | refine LeO.bind ?_ (fun _ => ?_)) | exact LeO.none _ | refine LeO.ite ?_ ?_ | refine LeO.bind ?_ (fun _ => ?_)) : p := h

/-! ### spec_l1Cur_madeSheet: function 81 -/
mutual
def spec_l1Cur_madeSheet.l0 : Nat → List (S90) → List Int → Int → Int → Option ((List (S90)) × Int × Int)
 | 0, _, _, _, _ => none
 | k + 1, x3, eR, fH, fI => if (x3.length : Int) < 20 then (if x3.length < 5864062014805 then (spec_l1Cur_madeSheet.l0 k (x3 ++ [(⟨(x3.length : Int), 0, 40⟩ : S90)]) eR fH fI) else (none)) else (if 19 < (x3.length : Int) then ((spec_l1Cur_pick.f eR fH fI 2).bind fun BK => (some ((x3.set (19 : Int).toNat (⟨(rd_T90 x3 19).f0, (rd_T90 x3 19).f1, wrap64 (((rd_T90 x3 19).f2) + BK.1)⟩ : S90)), BK.2.1, BK.2.2))) else (none))
def spec_l1Cur_madeSheet.l1 : Nat → List (S90) → List (S90) → Int → Int → List Int → Int → Int → Option ((List (S90)) × Int × Int)
 | 0, _, _, _, _, _, _, _ => none
 | k + 1, x3, x30, x31, x32, eR, fH, fI => if x32 < x31 then (if 0 ≤ x32 then (if x32 < (x30.length : Int) then (if (wrap64 (((rd_T90 x30 x32).f2) - ((rd_T90 x30 x32).f1))) < 4 then ((spec_l1Cur_one.f eR fH fI 20).bind fun BL => (spec_l1Cur_madeSheet.j2 k x3 x30 x31 x32 (!BL.1) eR BL.2.1 BL.2.2 ((rd_T90 x30 x32).f0) ((rd_T90 x30 x32).f1) ((rd_T90 x30 x32).f2))) else (spec_l1Cur_madeSheet.j2 k x3 x30 x31 x32 false eR fH fI ((rd_T90 x30 x32).f0) ((rd_T90 x30 x32).f1) ((rd_T90 x30 x32).f2))) else (none)) else (none)) else ((spec_l1Cur_one.f eR fH fI 16).bind fun uv => (if uv.1 = true then ((spec_l1Cur_anySheet.f k eR uv.2.1 uv.2.2).bind fun BM => (some (BM.1, BM.2.1, BM.2.2))) else (some (x3, uv.2.1, uv.2.2))))
def spec_l1Cur_madeSheet.j2 : Nat → List (S90) → List (S90) → Int → Int → Bool → List Int → Int → Int → Int → Int → Int → Option ((List (S90)) × Int × Int)
 | 0, _, _, _, _, _, _, _, _, _, _, _ => none
 | k + 1, x3, x30, x31, x32, x46, eR, fH, fI, xG, sb, x348002 => if x46 = true then ((spec_l1Cur_pick.f eR fH fI 5).bind fun uw => ((spec_shWith.f k x3 xG sb (wrap64 ((wrap64 (sb + 4)) + uw.1))).bind fun E3 => (if E3.2 = true then (spec_l1Cur_madeSheet.l1 k E3.1 x30 x31 (wrap64 (x32 + 1)) eR uw.2.1 uw.2.2) else (spec_l1Cur_madeSheet.l1 k x3 x30 x31 (wrap64 (x32 + 1)) eR uw.2.1 uw.2.2)))) else ((spec_shWith.f k x3 xG sb x348002).bind fun E4 => (if E4.2 = true then (spec_l1Cur_madeSheet.l1 k E4.1 x30 x31 (wrap64 (x32 + 1)) eR fH fI) else (spec_l1Cur_madeSheet.l1 k x3 x30 x31 (wrap64 (x32 + 1)) eR fH fI)))
end
def spec_l1Cur_madeSheet.f (k : Nat) (s0_0 : List Int) (s0_1 : Int) (s0_2 : Int) : Option ((List (S90)) × Int × Int) := (spec_l1Cur_one.f s0_0 s0_1 s0_2 20).bind fun lz => (if lz.1 = true then (spec_l1Cur_madeSheet.l0 k ([] : List (S90)) s0_0 lz.2.1 lz.2.2) else ((spec_l1Cur_sheet.f k s0_0 lz.2.1 lz.2.2).bind fun nK => (spec_l1Cur_madeSheet.l1 k ([] : List (S90)) nK.1 (nK.1.length : Int) 0 s0_0 nK.2.1 nK.2.2)))
theorem spec_l1Cur_madeSheet.mono_l : ∀ k, (∀ y0 y1 y2 y3, LeO (spec_l1Cur_madeSheet.l0 k y0 y1 y2 y3) (spec_l1Cur_madeSheet.l0 (k + 1) y0 y1 y2 y3)) ∧ (∀ y0 y1 y2 y3 y4 y5 y6, LeO (spec_l1Cur_madeSheet.l1 k y0 y1 y2 y3 y4 y5 y6) (spec_l1Cur_madeSheet.l1 (k + 1) y0 y1 y2 y3 y4 y5 y6)) ∧ (∀ y0 y1 y2 y3 y4 y5 y6 y7 y8 y9 pQ, LeO (spec_l1Cur_madeSheet.j2 k y0 y1 y2 y3 y4 y5 y6 y7 y8 y9 pQ) (spec_l1Cur_madeSheet.j2 (k + 1) y0 y1 y2 y3 y4 y5 y6 y7 y8 y9 pQ))
 | 0 => ⟨fun _ _ _ _ r h => by simp [spec_l1Cur_madeSheet.l0] at h, fun _ _ _ _ _ _ _ r h => by simp [spec_l1Cur_madeSheet.l1] at h, fun _ _ _ _ _ _ _ _ _ _ _ r h => by simp [spec_l1Cur_madeSheet.j2] at h⟩
 | k + 1 => by
  obtain ⟨ih0, ih1, ih2⟩ := spec_l1Cur_madeSheet.mono_l k
  refine ⟨?_, ?_, ?_⟩
  ·intro y0 y1 y2 y3
   unfold spec_l1Cur_madeSheet.l0
   exact mo8_
  ·intro y0 y1 y2 y3 y4 y5 y6
   unfold spec_l1Cur_madeSheet.l1
   exact mo8_
  intro y0 y1 y2 y3 y4 y5 y6 y7 y8 y9 pQ
  unfold spec_l1Cur_madeSheet.j2
  exact mo8_
theorem spec_l1Cur_madeSheet.mono : ∀ a0 a1 a2 k, LeO (spec_l1Cur_madeSheet.f k a0 a1 a2) (spec_l1Cur_madeSheet.f (k + 1) a0 a1 a2) := by
 intro a0 a1 a2 k
 obtain ⟨ih0, ih1, ih2⟩ := spec_l1Cur_madeSheet.mono_l k
 unfold spec_l1Cur_madeSheet.f
 exact mo8_
def spec_l1Cur_madeSheet.T5 : Bool × List (List Nat × List Nat) := (true, [([], []), ([0], [0]), ([1], [1]), ([2], [2]), ([], []), ([4], [4]), ([3, 5], [3, 5]), ([0, 0, 1, 2, 3, 4, 5, 6], [0]), ([7, 0, 1, 2, 3, 4, 5, 6], [7]), ([8, 6, 5, 0, 1, 2, 3, 4, 5, 6], [6, 8])])
def spec_l1Cur_madeSheet.B5 : List Nat := [0, 1, 3, 7, 0, 16, 63, 127, 255, 511]
theorem spec_l1Cur_madeSheet.tab5 : rtab .any (opsOf Try.f81 5) = spec_l1Cur_madeSheet.T5 := by kernel_rfl
theorem spec_l1Cur_madeSheet.bits5 : waitsOk spec_l1Cur_madeSheet.T5.2 spec_l1Cur_madeSheet.B5 = true := by kernel_rfl
def spec_l1Cur_madeSheet.T11 : Bool × List (List Nat × List Nat) := (true, [([], []), ([0], [0]), ([1], [1]), ([], []), ([3], [3]), ([2, 4], [2, 4]), ([0, 1, 2, 3, 4, 5], []), ([6, 5, 4, 0, 1, 2, 3, 4, 5], [5, 6])])
def spec_l1Cur_madeSheet.B11 : List Nat := [0, 1, 3, 0, 8, 31, 63, 127]
theorem spec_l1Cur_madeSheet.tab11 : rtab .any (opsOf Try.f81 11) = spec_l1Cur_madeSheet.T11 := by kernel_rfl
theorem spec_l1Cur_madeSheet.bits11 : waitsOk spec_l1Cur_madeSheet.T11.2 spec_l1Cur_madeSheet.B11 = true := by kernel_rfl
set_option maxHeartbeats 8000000 in
set_option maxRecDepth 100000 in
theorem spec_l1Cur_madeSheet.calls (k : Nat) (g : Nat) (s0_0 : List Int) (s0_1 : Int) (s0_2 : Int) (r1 : List (S90)) (r2 : Int) (r3 : Int) (w0 w : World) (hI : IsS69 w0 w g s0_0 s0_1 s0_2) (hB : Below w0.heap.size w0 w) (h : spec_l1Cur_madeSheet.f k s0_0 s0_1 s0_2 = some (r1, r2, r3)) :
  Calls Try.prog 81 #[.pointer (some ⟨g, 0, none⟩)] w fun e w' => ∃ v0_ : Value, e = .returned (v0_) ∧ Kd.R k90 90 w' w.heap.size (fun _ => True) v0_ r1 ∧ IsS69 w0 w' g s0_0 r2 r3 ∧ Below w0.heap.size w0 w' ∧ KeepBut w w' g none := by
 have hu90 := Try.underlying90
 have HI0 := Aside0.mk hI
 have HK := Aside0.mk (KeepBut.refl w g none)
 have HL := Aside0.mk hB.size
 clear hI
 have HW0 := Aside0.mk hB.size
 have HB := Aside0.mk hB
 clear hB
 have H : ((spec_l1Cur_one.f s0_0 s0_1 s0_2 20).bind fun lz => (if lz.1 = true then (spec_l1Cur_madeSheet.l0 k ([] : List (S90)) s0_0 lz.2.1 lz.2.2) else ((spec_l1Cur_sheet.f k s0_0 lz.2.1 lz.2.2).bind fun nK => (spec_l1Cur_madeSheet.l1 k ([] : List (S90)) nK.1 (nK.1.length : Int) 0 s0_0 nK.2.1 nK.2.2)))) = some (r1, r2, r3) := h
 clear h
 obtain ⟨⟨t330, ux, uy⟩, A2, H⟩ := bd_ H
 (try dsimp only at H)
 by_cases c3 : t330 = true
 ·subst c3
  rw [if_pos rfl] at H
  have H' := Aside0.mk H
  clear H
  go_enter Try.func81, Try.ntmps81
  go_wp2_with ((with_reducible refine gate_callee (f := 79) rfl ?_); refine gl_ 9 Try.func79 #[.pointer (some ⟨g, 0, none⟩), .int .i64 20] ?_; (with_reducible refine (spec_l1Cur_one.calls g s0_0 s0_1 s0_2 20 true ux uy w0 _ ?_ ?_ A2.out).mono ?_); exact (Z8 HI0); exact Z10; rintro e w4 ⟨rfl, hi, hb, hk⟩; refine ⟨_, rfl, ?_⟩; refine k3_ (KeepBut.trans (Z9) hk (.inl rfl)) (hb) (hi) ?_; clear HK HB HI0; intro HK HB HI0; (try clear hb hk hi))
  (try simp only [Act.put, List.setIfInBounds_toArray, List.set_cons_zero, List.set_cons_succ])
  go_loopg [3] k (fun kq v3 w' => ∃ (bt : List (S90)), Aside0 (spec_l1Cur_madeSheet.l0 kq bt s0_0 ux uy = some (r1, r2, r3)) ∧ Aside0 (kq ≤ k) ∧ Aside0 (Kd.R k90 90 w' w.heap.size (fun _ => True) v3 bt) ∧ Aside0 (IsS69 w0 w' g s0_0 ux uy) ∧ Aside0 (KeepBut w w' g none) ∧ Aside0 (Below w0.heap.size w0 w'))
  case atStart => exact ⟨(([] : List (S90))), H', ⟨Nat.le_refl _⟩, ⟨Z44⟩, ⟨Z8 HI0⟩, ⟨Z9⟩, ⟨Z10⟩⟩
  case round =>
   clear H'
   (try clear p2); (try clear c3)
   obtain ⟨bt, HA, HK1, bp, HI0, HK, HB⟩ := hrel
   cases gk with
   | zero => exact absurd HA.out (by simp [spec_l1Cur_madeSheet.l0])
   | succ k1 =>
    have H := HA.out
    clear HA
    simp only [spec_l1Cur_madeSheet.l0] at H
    by_cases c5 : (bt.length : Int) < 20
    ·rw [if_pos c5] at H
     have gW : decide ((bt.length : Int) < 20) = true := decide_eq_true c5
     have u2 : decide (bt.length < 20) = true := decide_eq_true (by omega)
     clear c5
     by_cases c6 : bt.length < 5864062014805
     case neg => rw [if_neg c6] at H; exact absurd H (by simp)
     rw [if_pos c6] at H
     have LMc6 := Aside0.mk c6
     clear c6
     obtain ⟨IB, uz⟩ : ∃ y_ : List (S90), y_ = (bt ++ [(⟨(bt.length : Int), 0, 40⟩ : S90)]) := ⟨_, rfl⟩
     replace H : (spec_l1Cur_madeSheet.l0 k1 IB s0_0 ux uy) = some (r1, r2, r3) := hx_ uz H
     have Ny333 := Aside0.mk uz
     clear uz
     have H' := Aside0.mk H
     clear H
     obtain ⟨hG, fw, Cm⟩ := Kd.R_slice bp.out
     subst Cm
     go_wp2_with ((with_reducible refine gate_builtin (b := .append) (xs := #[.tmp 13, .tmp 17]) rfl ?_); at_builtin; refine Kd.R_append k90 w.heap.size rfl (.tmp 13) (.tmp 17) 42 90 (.agg #[(.int .i64 0), (.int .i64 0), (.int .i64 0)]) 24 rfl Try.underlying42 info90 rfl (by decide) (by omega) (.slice hG bt.length fw) bt (⟨(bt.length : Int), 0, 40⟩ : S90) [.int .i64 (bt.length : Int), .int .i64 0, .int .i64 40] (fun _ => True) (fun _ => False) rfl rfl ?aP (fun _ hk => hk.elim) ?aF ?aO (Below.refl _ _) ?aS ?aL ?_; (case aP => exact k90_mkM _ _ _ (⟨(bt.length : Int), 0, 40⟩ : S90)); (case aF => exact (fun _ _ => trivial)); (case aO => exact (Z2 bp)); (case aS => exact (keep_size (w := w) (g := g) (row := none) (Z9))); (case aL => exact Z182 LMc6); intro v334 w8 ho hb hg hat; rw [← Ny333.out] at ho; refine k4_ (IsS69.grown (Z8 HI0) hg (IsS69.own_ne HI0.out bp.out (by decide))) (below_weaken (Z10) HL.out hb) (KeepBut.trans (Z9) (KeepBut.of_grown hg g) (Kd.R_base2 bp.out)) (ho) ?_; clear HI0 HB HK bp; intro HI0 HB HK HO335; clear ho hb hg hat)
     go_roundg k1
     case measure => have := HK1.out; omega
     case rel => exact ⟨(IB), H', ⟨Z182 HK1⟩, ⟨Z2 HO335⟩, ⟨Z8 HI0⟩, ⟨Z9⟩, ⟨Z10⟩⟩
    rw [if_neg c5] at H
    have gW : decide ((bt.length : Int) < 20) = false := decide_eq_false c5
    have u2 : decide (bt.length < 20) = false := decide_eq_false (by omega)
    clear c5
    by_cases c9 : 19 < (bt.length : Int)
    case neg => rw [if_neg c9] at H; exact absurd H (by simp)
    rw [if_pos c9] at H
    have qy : decide (19 < (bt.length : Int)) = true := decide_eq_true c9
    have Gd : decide (19 < bt.length) = true := decide_eq_true (by omega)
    clear c9
    obtain ⟨⟨BN, IC, ID⟩, Jl, H⟩ := bd_ H
    (try dsimp only at H)
    obtain ⟨y340, uA⟩ : ∃ y_ : List (S90), y_ = (bt.set (19 : Int).toNat (⟨(rd_T90 bt 19).f0, (rd_T90 bt 19).f1, wrap64 (((rd_T90 bt 19).f2) + BN)⟩ : S90)) := ⟨_, rfl⟩
    replace H : (some (y340, IC, ID)) = some (r1, r2, r3) := hx_ uA H
    have Ny340 := Aside0.mk uA
    clear uA
    simp only [Option.some.injEq, Prod.mk.injEq] at H
    obtain ⟨rfl, rfl, rfl⟩ := H
    obtain ⟨pO, mG, rn⟩ := Kd.R_slice bp.out
    subst rn
    try go_wp2
    refine k4_ (Kd.R_drew bp.out) (IsS69.drew HI0.out) (keep_drew HK.out) (below_drew1 HB.out) ?_
    clear bp HI0 HK HB
    intro bp HI0 HK HB
    have Da : 0 ≤ (19 : Int) := (by omega)
    have Db : 19 < (bt.length : Int) := of_decide_eq_true (Z21)
    obtain ⟨ph, e336, jJ, jK, jL⟩ := at_T90 (Kd.R_reads' bp.out).2.2 19 Da Db
    cases e336
    (try simp only [show (19 : Int).toNat = 19 from rfl, Nat.reduceMul, Nat.reduceEqDiff, Go.Addr.add, ↓reduceIte] at jJ)
    (try simp only [show (19 : Int).toNat = 19 from rfl, Nat.reduceMul, Nat.reduceEqDiff, Go.Addr.add, ↓reduceIte] at jK)
    (try simp only [show (19 : Int).toNat = 19 from rfl, Nat.reduceMul, Nat.reduceEqDiff, Go.Addr.add, ↓reduceIte] at jL)
    have qi336 : (19 < bt.length) = True := eq_true (by omega)
    (try rw [show ((19 : Int)).toNat = 19 from rfl] at jJ)
    (try rw [show 19 * 3 = 57 from rfl] at jJ)
    (try rw [show ((19 : Int)).toNat = 19 from rfl] at jK)
    (try rw [show 19 * 3 = 57 from rfl] at jK)
    (try rw [show ((19 : Int)).toNat = 19 from rfl] at jL)
    (try rw [show 19 * 3 = 57 from rfl] at jL)
    replace Da := eq_true Da
    replace Db := eq_true Db
    refine start_ (n := 10) (S := fun w' => w'.cell? ⟨ph.block, ph.off + 57, none⟩ = some (.int .i64 ((rd_T90 bt 19).f0)) ∧ w'.cell? ⟨ph.block, ph.off + 57 + 1, none⟩ = some (.int .i64 ((rd_T90 bt 19).f1)) ∧ w'.cell? ⟨ph.block, ph.off + 57 + 2, none⟩ = some (.int .i64 ((rd_T90 bt 19).f2))) (ds := [9]) (M_ 0 10) (by kernel_rfl) rfl rfl ⟨jJ, jK, jL⟩ (fun hHeld => ?_); refine with_tabW spec_l1Cur_madeSheet.tab5 spec_l1Cur_madeSheet.bits5 (fun HT_ HW_ => ?_)
    generalize wr.drew = lG at bp HI0 HK HB jJ jK jL hHeld ⊢
    refine pu_ 0 19 (M_ 1 9) ?_
    refine pu_ 1 20 (M_ 2 8) ?_
    refine pu_ 2 21 (M_ 3 7) ?_
    refine pu_ 4 23 (N_ 10 23) ?_
    refine tk3_ 3 22 (M_ 5 5) hHeld ?_
    refine one_ (i := 5) (N := some 24) (M_ 6 4) rfl rfl (one_of HT_.out (by kernel_rfl)) (by decide) (fun K hK => ?_)
    refine goes_ Try.func45 (by kernel_rfl) rfl #[.pointer (some ⟨g, 0, none⟩), .int .i64 2] (by rfl) rfl rfl (Z107) ?_
    with_reducible refine (spec_l1Cur_pick.calls g s0_0 ux uy 2 BN IC ID w0 _ ?side1 ?side2 Jl.out).mono ?_
    (case side1 => exact Z8 HI0)
    (case side2 => exact Z10)
    rintro e oC ⟨rfl, hi, hb, hk⟩
    have HS0_ := keep_cell hk (hHeld.1) (Z164)
    have HS1_ := keep_cell hk (hHeld.2.1) (Z164)
    have HS2_ := keep_cell hk (hHeld.2.2) (Z164)
    refine ⟨_, rfl, ?_⟩
    have n0_ := Aside0.mk (Kd.R_mono (Kd.R_keep (IsS69.apart (show IsS69 w0 _ g s0_0 ux uy from Z8 HI0) (Z2 bp) (by decide)) hk (fun _ h => h.2)) (fun _ h => h.1))
    have n1_ := Aside0.mk (KeepBut.trans (Z9) hk (.inl rfl))
    have n2_ := Aside0.mk (hb)
    have n3_ := Aside0.mk (hi)
    clear bp
    clear HK
    clear HB
    clear HI0
    have bp := n0_
    have HK := n1_
    have HB := n2_
    have HI0 := n3_
    clear n0_ n1_ n2_ n3_
    (try clear hb)
    (try clear hb2)
    (try clear hk)
    (try clear hi)
    have Ib : 0 ≤ (19 : Int) := (by omega)
    have xW : (19 : Int) < ((bt.length : Int) : Int) := of_decide_eq_true (Z21)
    have qi11 : (19 < bt.length) = True := eq_true (by omega)
    obtain ⟨go11, co11, CW, IE, gl11, cl11, HG11⟩ := Kd.R_form bp.out (by omega)
    (first | cases CW | (injection CW with ea_ en_ ec_; (first | subst ea_ | (injection ea_ with ea_; subst ea_)); subst ec_; clear en_))
    have GB11 := Aside0.mk IE
    have GG11 := Aside0.mk HG11
    clear IE gl11 HG11
    (first | simp only [add_plain] at jJ | skip)
    (first | simp only [add_plain] at jK | skip)
    (first | simp only [add_plain] at jL | skip)
    obtain ⟨ce11, hcl11, hM11, hcc11, hfr11⟩ := Kd.R_elem bp.out z90 (19 : Int) Ib xW
    obtain rfl := k90_openM hM11
    have vS : World.cell? _ ⟨go11, (19 : Int).toNat * 3, none⟩ = some (.int .i64 ((rd_T90 bt 19).f0)) := hcc11 0 _ rfl
    have vT : World.cell? _ ⟨go11, (19 : Int).toNat * 3 + 1, none⟩ = some (.int .i64 ((rd_T90 bt 19).f1)) := hcc11 1 _ rfl
    have vU : World.cell? _ ⟨go11, (19 : Int).toNat * 3 + 2, none⟩ = some (.int .i64 ((rd_T90 bt 19).f2)) := hcc11 2 _ rfl
    have hf11_0 : World.frozen? _ ⟨go11, (19 : Int).toNat * 3, none⟩ = false := hfr11 0
    have hf11_1 : World.frozen? _ ⟨go11, (19 : Int).toNat * 3 + 1, none⟩ = false := hfr11 1
    have hf11_2 : World.frozen? _ ⟨go11, (19 : Int).toNat * 3 + 2, none⟩ = false := hfr11 2
    clear hcl11 hcc11 hfr11 hM11
    (try rw [show ((19 : Int)).toNat = 19 from rfl] at vS)
    (try simp only [Nat.reduceMul, Nat.zero_mul, Nat.zero_add, Nat.reduceAdd] at vS)
    (try rw [show ((19 : Int)).toNat = 19 from rfl] at hf11_0)
    (try simp only [Nat.reduceMul, Nat.zero_mul, Nat.zero_add, Nat.reduceAdd] at hf11_0)
    (try rw [show ((19 : Int)).toNat = 19 from rfl] at vT)
    (try simp only [Nat.reduceMul, Nat.zero_mul, Nat.zero_add, Nat.reduceAdd] at vT)
    (try rw [show ((19 : Int)).toNat = 19 from rfl] at hf11_1)
    (try simp only [Nat.reduceMul, Nat.zero_mul, Nat.zero_add, Nat.reduceAdd] at hf11_1)
    (try rw [show ((19 : Int)).toNat = 19 from rfl] at vU)
    (try simp only [Nat.reduceMul, Nat.zero_mul, Nat.zero_add, Nat.reduceAdd] at vU)
    (try rw [show ((19 : Int)).toNat = 19 from rfl] at hf11_2)
    (try simp only [Nat.reduceMul, Nat.zero_mul, Nat.zero_add, Nat.reduceAdd] at hf11_2)
    replace Ib := eq_true Ib
    replace xW := eq_true xW
    have HN0_go11 := Aside0.mk (show g ≠ go11 from by have h_ := IsS69.own_ne HI0.out bp.out (by decide); intro e_; exact h_ (by rw [e_]; rfl))
    obtain ⟨ce15, hcl15, hM15, hcc15, hfr15⟩ := Kd.R_elem bp.out z90 (19 : Int) (by omega) (Z244)
    obtain rfl := k90_openM hM15
    have HP15 := (Kd.R_seg bp.out (19 : Int) (by omega) (Z244) (seg := [.int .i64 (wrap64 (((rd_T90 bt 19).f2) + BN))]) (j := 2) hcl15 hcc15 (show 3 ≤ 3 from by decide) (x' := (⟨(rd_T90 bt 19).f0, (rd_T90 bt 19).f1, wrap64 (((rd_T90 bt 19).f2) + BN)⟩ : S90)) (k90_mkM _ _ _ (⟨(rd_T90 bt 19).f0, (rd_T90 bt 19).f1, wrap64 (((rd_T90 bt 19).f2) + BN)⟩ : S90) ) (fun _ hk => hk)).1
    rw [← Ny340.out] at HP15
    have HQ15 := Aside0.mk HP15
    clear hcl15 hcc15 hfr15 hM15 HP15
    refine hK.out _ _ ⟨HS0_, HS1_, HS2_⟩ (fun hHeld => ?_)
    clear hK K
    refine norm_ (a' := ?_) ?_ ?_
    rotate_left
    ·show Act.put _ (some 24) _ = _
     simp only [Act.put, List.setIfInBounds_toArray, List.set_cons_zero, List.set_cons_succ, i64_w, i32_w]
     rfl
    refine pu_ 6 25 (M_ 7 3) ?_
    refine pu_ 7 26 (M_ 8 2) ?_
    refine pu_ 8 27 (M_ 9 1) ?_
    refine last_ (i := 9) (N := none) (M_ 10 0) rfl rfl (one_of HT_.out (by kernel_rfl)) (by decide) (fun K hK => ?_)
    refine skip_ (w1 := ?_) (by rfl) rfl ?_ ?_
    rotate_left
    ·go_simp
     rfl
    refine hK.out _ _ ?_
    clear hK K
    refine done_ (done_of HT_.out (by kernel_rfl)) ?_
    try go_wp2
    go_ret
    exact ⟨_, Z11, Z2 HQ15, by repeat (first | (with_reducible first | exact HI0.out | apply IsS69.alloc | apply IsS69.drewN | apply IsS69.drew | apply IsS69.set_1 | apply IsS69.set_2 | refine IsS69.far ?_ HN0_go11.out _) | exact HI0.out), by repeat (first | (with_reducible first | exact HB.out | apply below_alloc | apply pw_below_drewN | apply below_drew1 | refine below_set ?_ (Nat.le_trans HL.out GB11.out) | refine below_set ?_ (IsS69.ge HI0.out)) | exact HB.out), by repeat (first | (with_reducible first | exact HK.out | apply KeepBut.set_ | apply keep_drewN | apply keep_drew | apply keep_alloc | refine keep_far ?_ GB11.out _) | exact HK.out)⟩
 replace c3 := Bool.eq_false_iff.mpr c3
 subst c3
 rw [if_neg (show ¬ (false = true) by decide)] at H
 obtain ⟨⟨cn, IF, IG⟩, Fp, H⟩ := bd_ H
 (try dsimp only at H)
 have H' := Aside0.mk H
 clear H
 go_enter Try.func81, Try.ntmps81
 go_wp2_with (first | ((with_reducible refine gate_callee (f := 79) rfl ?_); refine gl_ 9 Try.func79 #[.pointer (some ⟨g, 0, none⟩), .int .i64 20] ?_; (with_reducible refine (spec_l1Cur_one.calls g s0_0 s0_1 s0_2 20 false ux uy w0 _ ?_ ?_ A2.out).mono ?_); exact (Z8 HI0); exact Z10; rintro e ws ⟨rfl, hi, hb, hk⟩; refine ⟨_, rfl, ?_⟩; refine k3_ (KeepBut.trans (Z9) hk (.inl rfl)) (hb) (hi) ?_; clear HK HB HI0; intro HK HB HI0; (try clear hb hk hi)) | ((with_reducible refine gate_callee (f := 87) rfl ?_); refine gl_ 30 Try.func87 #[.pointer (some ⟨g, 0, none⟩)] ?_; (with_reducible refine (spec_l1Cur_sheet.calls k g s0_0 ux uy cn IF IG w0 _ ?_ ?_ Fp.out).mono ?_); exact (Z8 HI0); exact Z10; rintro e B2 ⟨v342, rfl, ho0, hi, hb, hk⟩; refine ⟨_, rfl, ?_⟩; refine k4_ (Kd.R_lower ho0 (keep_size (w := w) (g := g) (row := none) (Z9))) (KeepBut.trans (Z9) hk (.inl rfl)) (hb) (hi) ?_; clear HK HB HI0; intro E5 HK HB HI0; (try clear hb hk hi ho0); obtain ⟨zg, qw, uN⟩ := Kd.R_slice E5.out; subst uN))
 (try simp only [Act.put, List.setIfInBounds_toArray, List.set_cons_zero, List.set_cons_succ])
 go_loopg [3, 32] k (fun kq v3 v32 w' => ∃ (bt : List (S90)) (bs : Int) (dy : Int) (dz : Int), v32 = .int .i64 bs ∧ Aside0 (spec_l1Cur_madeSheet.l1 kq bt cn (cn.length : Int) bs s0_0 dy dz = some (r1, r2, r3)) ∧ Aside0 (kq ≤ k) ∧ Aside0 (Kd.R k90 90 w' w.heap.size (fun k_ => some k_ ≠ ((.slice zg cn.length qw) : Value).ownBlock) v3 bt) ∧ Aside0 (Kd.R k90 90 w' w.heap.size (fun k_ => some k_ ≠ (v3 : Value).ownBlock) (.slice zg cn.length qw) cn) ∧ Aside0 (IsS69 w0 w' g s0_0 dy dz) ∧ Aside0 (KeepBut w w' g none) ∧ Aside0 (Below w0.heap.size w0 w'))
 case atStart => exact ⟨(([] : List (S90))), (0), (IF), (IG), (Z41), H', ⟨Nat.le_refl _⟩, ⟨Z44⟩, ⟨by (with_reducible repeat (first | apply Kd.R_alloc | apply Kd.R_drewN | apply Kd.R_drew)); exact Kd.R_mono E5.out (fun _ hk => (by simp [Value.ownBlock]))⟩, ⟨Z8 HI0⟩, ⟨Z9⟩, ⟨Z10⟩⟩
 case round =>
  clear H'
  (try clear c1); (try clear p1); (try clear q1); (try clear hx1); (try clear qi1); (try clear hf1); (try clear p2); (try clear c3); (try clear p3); (try clear q3); (try clear hx3); (try clear qi3); (try clear c4); (try clear c5); (try clear gW); (try clear u2); (try clear c6); (try clear p6); (try clear c7); (try clear c8); (try clear c9); (try clear qy); (try clear Gd); (try clear c11); (try clear Ib); (try clear xW); (try clear hx11); (try clear qi11); (try clear hf11); (try clear c15); (try clear vS); (try clear vT); (try clear vU); (try clear jJ); (try clear jK); (try clear jL); (try clear Da); (try clear Db)
  obtain ⟨bt, bs, dy, dz, rfl, HA, HK1, bp, dn, HI0, HK, HB⟩ := hrel
  cases gk with
  | zero => exact absurd HA.out (by simp [spec_l1Cur_madeSheet.l1])
  | succ k1 =>
   have H := HA.out
   clear HA
   simp only [spec_l1Cur_madeSheet.l1] at H
   by_cases c20 : bs < (cn.length : Int)
   ·rw [if_pos c20] at H
    have nw : decide (bs < (cn.length : Int)) = true := decide_eq_true c20
    clear c20
    by_cases c21 : 0 ≤ bs
    case neg => rw [if_neg c21] at H; exact absurd H (by simp)
    rw [if_pos c21] at H
    have xg : decide (0 ≤ bs) = true := decide_eq_true c21
    clear c21
    by_cases c22 : bs < (cn.length : Int)
    case neg => rw [if_neg c22] at H; exact absurd H (by simp)
    rw [if_pos c22] at H
    have c22b0 : decide (bs < (cn.length : Int)) = true := decide_eq_true c22
    clear c22
    have HC23 := Aside0.mk H
    clear H
    have Dc : 0 ≤ (bs : Int) := of_decide_eq_true (Z21)
    have Dd : bs < (cn.length : Int) := of_decide_eq_true (Z21)
    obtain ⟨xH, e346, hx346_0, hx346_1, hx346_2⟩ := at_T90 (Kd.R_reads' dn.out).2.2 bs Dc Dd
    cases e346
    replace Dc := eq_true Dc
    replace Dd := eq_true Dd
    go_upto_region 10 with ((with_reducible refine gate_dst (N := 5) rfl ?_); refine bv_ 5 90 #[.int .i64 0, .int .i64 0, .int .i64 0] ?_; intro d4 hg fE hbox hb; refine k10_ (Kd.R_below (Kd.R_elderB (Z2 bp) d4 (Nat.le_of_eq hg.symm)) hb) (Kd.R_below (Kd.R_elderB (Z2 dn) d4 (Nat.le_of_eq hg.symm)) hb) (IsS69.below (Z8 HI0) hb) (KeepBut.trans (Z9) (KeepBut.of_below hb g none) (.inl rfl)) (below_step (Z10) hb) (hbox) ((Z156 : w.heap.size ≤ d4)) ((Nat.le_trans HW0.out (Z156 : w.heap.size ≤ d4) : w0.heap.size ≤ d4)) ((by rw [hg]; exact Nat.ne_of_lt (IsS69.lt (show IsS69 w0 _ g s0_0 dy dz from Z8 HI0)) : g ≠ d4)) ((by rw [hg]; exact Nat.ne_of_gt (IsS69.lt (show IsS69 w0 _ g s0_0 dy dz from Z8 HI0)) : d4 ≠ g)) ?_; clear bp dn HI0 HK HB; intro bp dn HI0 HK HB dj GW347 GE347 iq gI; clear hb hbox hg; have hnb25 := gI.out; have hnc25 := iq.out; obtain ⟨jp, jq, hcz26_2, jr, js, hfz26_2⟩ := bx3_ (w := fE) dj.out)
    (try simp only [Act.put, List.setIfInBounds_toArray, List.set_cons_zero, List.set_cons_succ])
    go_cut [46] (fun v46 wc => ∃ (kq : Nat) (sc : Bool) (fO : Int) (fP : Int), v46 = .bool sc ∧ Aside0 (spec_l1Cur_madeSheet.j2 kq bt cn (cn.length : Int) bs sc s0_0 fO fP ((rd_T90 cn bs).f0) ((rd_T90 cn bs).f1) ((rd_T90 cn bs).f2) = some (r1, r2, r3)) ∧ Aside0 (kq ≤ k1) ∧ Aside0 (Kd.R k90 90 wc w.heap.size (fun k_ => some k_ ≠ ((.slice (some xH) cn.length qw) : Value).ownBlock ∧ k_ ≠ d4) u3 bt) ∧ Aside0 (Kd.R k90 90 wc w.heap.size (fun k_ => some k_ ≠ (u3 : Value).ownBlock ∧ k_ ≠ d4) (.slice (some xH) cn.length qw) cn) ∧ Aside0 (wc.heap[d4]? = some (.cells #[.int .i64 ((rd_T90 cn bs).f0), .int .i64 ((rd_T90 cn bs).f1), .int .i64 ((rd_T90 cn bs).f2)] 90 (0, 0))) ∧ Aside0 (IsS69 w0 wc g s0_0 fO fP) ∧ Aside0 (KeepBut w wc g none) ∧ Aside0 (Below w0.heap.size w0 wc))
    case first =>
     have H := HC23.out
     clear HC23
     by_cases c27 : (wrap64 (((rd_T90 cn bs).f2) - ((rd_T90 cn bs).f1))) < 4
     ·rw [if_pos c27] at H
      have iZ : decide ((wrap64 (((rd_T90 cn bs).f2) - ((rd_T90 cn bs).f1))) < 4) = true := decide_eq_true c27
      clear c27
      (first | rw [iZ] | (simp only [i64_w, i32_w]; rw [iZ]) | skip)
      obtain ⟨⟨IH, II, IJ⟩, A28, H⟩ := bd_ H
      (try dsimp only at H)
      have H' := Aside0.mk H
      clear H
      have hnb29 := gI.out
      have hnc29 := iq.out
      obtain ⟨nb, nc, hcz30_2, ne, nf, hfz30_2⟩ := bx3_ (w := fE) dj.out
      go_wp2_with (go_at_call 79; (with_reducible refine (spec_l1Cur_one.calls g s0_0 dy dz 20 IH II IJ w0 _ ?_ ?_ A28.out).mono ?_); exact Z54; exact Z76; rintro e GY ⟨rfl, hi, hb, hk⟩; refine k6_ (Kd.R_mono (Kd.R_keep (IsS69.apart (show IsS69 w0 _ g s0_0 dy dz from Z54) (Z193 bp) (by decide)) hk (fun _ h => h.2)) (fun _ h => h.1)) (Kd.R_mono (Kd.R_keep (IsS69.apart (show IsS69 w0 _ g s0_0 dy dz from Z54) (Z193 dn) (by decide)) hk (fun _ h => h.2)) (fun _ h => h.1)) (KeepBut.blk hk (g' := d4) (o := .cells #[.int .i64 ((rd_T90 cn bs).f0), .int .i64 ((rd_T90 cn bs).f1), .int .i64 ((rd_T90 cn bs).f2)] 90 (0, 0)) (Z159) gI.out (by simp)) (KeepBut.trans (Z66) hk (.inl rfl)) (hb) (hi) ?_; clear bp dn dj HK HB HI0; intro bp dn dj HK HB HI0; (try clear hb hk hi))
      go_meet
      case rel => exact ⟨_, (!IH), (II), (IJ), (Z41), H', ⟨Z186 HK1⟩, ⟨Z2 bp⟩, ⟨Z2 dn⟩, ⟨Z1 dj⟩, ⟨Z54⟩, ⟨Z66⟩, ⟨Z76⟩⟩
     rw [if_neg c27] at H
     have iZ : decide ((wrap64 (((rd_T90 cn bs).f2) - ((rd_T90 cn bs).f1))) < 4) = false := decide_eq_false c27
     clear c27
     (first | rw [iZ] | (simp only [i64_w, i32_w]; rw [iZ]) | skip)
     have H' := Aside0.mk H
     clear H
     have hnb32 := gI.out
     have hnc32 := iq.out
     obtain ⟨xI, xJ, hcz33_2, xK, xL, hfz33_2⟩ := bx3_ (w := fE) dj.out
     go_wp2
     go_meet
     case rel => exact ⟨_, (false), (dy), (dz), (Z41), H', ⟨Z186 HK1⟩, ⟨Z190 bp⟩, ⟨Z190 dn⟩, ⟨Z159⟩, ⟨Z54⟩, ⟨Z66⟩, ⟨Z76⟩⟩
    case rest =>
     clear HC23
     (try clear c2); (try clear c20); (try clear nw); (try clear c21); (try clear xg); (try clear c22); (try clear c22b0); (try clear c25); (try clear c27); (try clear iZ); (try clear c29); (try clear c32); (try clear p33); (try clear q33); (try clear hx33); (try clear qi33); (try clear jp); (try clear jq); (try clear hcz26_2); (try clear nb); (try clear nc); (try clear hcz30_2); (try clear xI); (try clear xJ); (try clear hcz33_2); (try clear jr); (try clear js); (try clear hfz26_2); (try clear ne); (try clear nf); (try clear hfz30_2); (try clear xK); (try clear xL); (try clear hfz33_2); (try clear hx346_0); (try clear hx346_1); (try clear hx346_2); (try clear Dc); (try clear Dd)
     obtain ⟨kq, sc, fO, fP, rfl, HA, yJ, bp, dn, dj, HI0, HK, HB⟩ := hcut
     cases kq with
     | zero => exact absurd HA.out (by simp [spec_l1Cur_madeSheet.j2])
     | succ uB =>
      have H := HA.out
      clear HA
      simp only [spec_l1Cur_madeSheet.j2] at H
      by_cases c34 : sc = true
      ·subst c34
       rw [if_pos rfl] at H
       obtain ⟨⟨nN, yz, yA⟩, JE, H⟩ := bd_ H
       (try dsimp only at H)
       obtain ⟨⟨GA, t357⟩, JF, H⟩ := bd_ H
       (try dsimp only at H)
       by_cases c37 : t357 = true
       ·subst c37
        rw [if_pos rfl] at H
        have H' := Aside0.mk H
        clear H
        try go_wp2
        refine k6_ (Kd.R_drew bp.out) (Kd.R_drew dn.out) (blk_drew dj.out) (IsS69.drew HI0.out) (keep_drew HK.out) (below_drew1 HB.out) ?_
        clear bp dn dj HI0 HK HB
        intro bp dn dj HI0 HK HB
        refine start_ (n := 8) (S := fun w' => w'.cell? ⟨d4, 0, none⟩ = some (.int .i64 ((rd_T90 cn bs).f0)) ∧ w'.cell? ⟨d4, 1, none⟩ = some (.int .i64 ((rd_T90 cn bs).f1)) ∧ w'.cell? ⟨d4, 2, none⟩ = some (.int .i64 ((rd_T90 cn bs).f2))) (ds := [7]) (M_ 0 8) (by kernel_rfl) rfl rfl ⟨(blk_cell dj.out 0).trans rfl, (blk_cell dj.out 1).trans rfl, (blk_cell dj.out 2).trans rfl⟩ (fun hHeld => ?_); refine with_tabW spec_l1Cur_madeSheet.tab11 spec_l1Cur_madeSheet.bits11 (fun HT_ HW_ => ?_)
        generalize wc.drew = Ct at bp dn dj HI0 HK HB hHeld ⊢
        refine pu_ 0 47 (M_ 1 7) ?_
        refine pu_ 3 50 (N_ 8 9) ?_
        refine tk3_ 1 48 (N_ 8 11) hHeld ?_
        refine pu_ 2 49 (M_ 4 4) ?_
        refine one_ (i := 4) (N := some 51) (M_ 5 3) rfl rfl (one_of HT_.out (by kernel_rfl)) (by decide) (fun K hK => ?_)
        refine goes_ Try.func45 (by kernel_rfl) rfl #[.pointer (some ⟨g, 0, none⟩), .int .i64 5] (by rfl) rfl rfl (Z107) ?_
        with_reducible refine (spec_l1Cur_pick.calls g s0_0 fO fP 5 nN yz yA w0 _ ?side1 ?side2 JE.out).mono ?_
        (case side1 => exact Z54)
        (case side2 => exact Z76)
        rintro e Fh ⟨rfl, hi, hb, hk⟩
        refine ⟨_, rfl, ?_⟩
        have n0_ := Aside0.mk (Kd.R_mono (Kd.R_keep (IsS69.apart (show IsS69 w0 _ g s0_0 fO fP from Z54) (Z2 bp) (by decide)) hk (fun _ h => h.2)) (fun _ h => h.1))
        have n1_ := Aside0.mk (Kd.R_mono (Kd.R_keep (IsS69.apart (show IsS69 w0 _ g s0_0 fO fP from Z54) (Z2 dn) (by decide)) hk (fun _ h => h.2)) (fun _ h => h.1))
        have n2_ := Aside0.mk (KeepBut.blk hk (g' := d4) (o := .cells #[.int .i64 ((rd_T90 cn bs).f0), .int .i64 ((rd_T90 cn bs).f1), .int .i64 ((rd_T90 cn bs).f2)] 90 (0, 0)) (Z1 dj) gI.out (by simp))
        have n3_ := Aside0.mk (KeepBut.trans (Z66) hk (.inl rfl))
        have n4_ := Aside0.mk (hb)
        have n5_ := Aside0.mk (hi)
        clear bp
        clear dn
        clear dj
        clear HK
        clear HB
        clear HI0
        have bp := n0_
        have dn := n1_
        have dj := n2_
        have HK := n3_
        have HB := n4_
        have HI0 := n5_
        clear n0_ n1_ n2_ n3_ n4_ n5_
        (try clear hb)
        (try clear hb2)
        (try clear hk)
        (try clear hi)
        refine hK.out _ _ ⟨(blk_cell dj.out 0).trans rfl, (blk_cell dj.out 1).trans rfl, (blk_cell dj.out 2).trans rfl⟩ (fun hHeld => ?_)
        clear hK K
        refine norm_ (a' := ?_) ?_ ?_
        rotate_left
        ·show Act.put _ (some 51) _ = _
         simp only [Act.put, List.setIfInBounds_toArray, List.set_cons_zero, List.set_cons_succ, i64_w, i32_w]
         rfl
        refine pu_ 5 52 (M_ 6 2) ?_
        refine pu_ 6 53 (M_ 7 1) ?_
        refine last_ (i := 7) (N := none) (M_ 8 0) rfl rfl (one_of HT_.out (by kernel_rfl)) (by decide) (fun K hK => ?_)
        have hs40 : Fh.cell? ⟨d4, 2, none⟩ = some (.int .i64 ((rd_T90 cn bs).f2)) := (blk_cell dj.out 2).trans rfl
        have hfs40 := blk_frozen dj.out 2
        refine skip_ (w1 := ?_) (by rfl) rfl ?_ ?_
        rotate_left
        ·go_simp
         rfl
        refine hK.out _ _ ?_
        clear hK K
        refine done_ (done_of HT_.out (by kernel_rfl)) ?_
        have hnb41 := gI.out
        have hnc41 := iq.out
        obtain ⟨hcz42_0, hcz42_1, hcz42_2, hfz42_0, hfz42_1, hfz42_2⟩ := bx3_ (w := Fh) dj.out
        obtain ⟨cw, cp, F3⟩ := Kd.R_slice bp.out
        subst F3
        try go_wp2_with ((with_reducible refine gate_callee (f := 105) rfl ?_); refine gl_ 57 Try.func105 #[.slice cw bt.length cp, .agg #[.int .i64 ((rd_T90 cn bs).f0), .int .i64 ((rd_T90 cn bs).f1), .int .i64 (wrap64 ((wrap64 (((rd_T90 cn bs).f1) + 4)) + nN))]] ?_; (with_reducible refine (spec_shWith.calls uB _ _ bt ((rd_T90 cn bs).f0) ((rd_T90 cn bs).f1) (wrap64 ((wrap64 (((rd_T90 cn bs).f1) + 4)) + nN)) GA true _ ?_ ?_ JF.out).mono ?_); exact (by refine (Kd.R_reads' (e := 90) (base := w.heap.size) (ok := fun k_ => (some k_ ≠ (.slice (some xH) cn.length qw : Value).ownBlock ∧ k_ ≠ d4)) (n := bt.length) (c := cp) ?_).2.2; exact (Z69 bp)); exact (Kd.R_reads' bp.out).2.1; rintro e JB ⟨v355, rfl, ho0, hb⟩; refine ⟨_, rfl, ?_⟩; refine k7_ (Kd.R_elder' (Z69 bp) (Kd.R_base ho0) hb) (Kd.R_elder' (Z69 dn) (Kd.R_base ho0) hb) (Kd.R_lower (Kd.R_newB (Kd.R_new' (Kd.R_new' ho0 (Kd.R_lt (Z69 bp))) (Kd.R_lt (Z69 dn))) (g := d4) (o := .cells #[.int .i64 ((rd_T90 cn bs).f0), .int .i64 ((rd_T90 cn bs).f1), .int .i64 (wrap64 ((wrap64 (((rd_T90 cn bs).f1) + 4)) + nN))] 90 (0, 0)) (Z139)) (keep_size (w := w) (g := g) (row := none) (Z66))) (blk_below (g := d4) (o := .cells #[.int .i64 ((rd_T90 cn bs).f0), .int .i64 ((rd_T90 cn bs).f1), .int .i64 (wrap64 ((wrap64 (((rd_T90 cn bs).f1) + 4)) + nN))] 90 (0, 0)) (Z139) hb) (IsS69.below (show IsS69 w0 (Fh.setCell ⟨d4, 2, none⟩ (.int .i64 (wrap64 ((wrap64 (((rd_T90 cn bs).f1) + 4)) + nN)))) g s0_0 yz yA from Z54) hb) (KeepBut.trans (Z66) (KeepBut.of_below hb g none) (.inl rfl)) (below_step (Z76) hb) ?_; clear bp dn dj HI0 HK HB; intro bp dn E6 dj HI0 HK HB; (try clear hb ho0))
        go_roundg uB
        case measure => have := HK1.out; have := yJ.out; omega
        case rel => exact ⟨(GA), (wrap64 (bs + 1)), (yz), (yA), (Z41), H', ⟨Z264⟩, ⟨by (with_reducible repeat (first | apply Kd.R_alloc | apply Kd.R_drewN | apply Kd.R_drew)); exact Kd.R_mono E6.out (fun _ hk => hk.1.2)⟩, ⟨Z185 dn⟩, ⟨Z54⟩, ⟨Z66⟩, ⟨Z76⟩⟩
       replace c37 := Bool.eq_false_iff.mpr c37
       subst c37
       rw [if_neg (show ¬ (false = true) by decide)] at H
       have H' := Aside0.mk H
       clear H
       try go_wp2
       refine k6_ (Kd.R_drew bp.out) (Kd.R_drew dn.out) (blk_drew dj.out) (IsS69.drew HI0.out) (keep_drew HK.out) (below_drew1 HB.out) ?_
       clear bp dn dj HI0 HK HB
       intro bp dn dj HI0 HK HB
       refine start_ (n := 8) (S := fun w' => w'.cell? ⟨d4, 0, none⟩ = some (.int .i64 ((rd_T90 cn bs).f0)) ∧ w'.cell? ⟨d4, 1, none⟩ = some (.int .i64 ((rd_T90 cn bs).f1)) ∧ w'.cell? ⟨d4, 2, none⟩ = some (.int .i64 ((rd_T90 cn bs).f2))) (ds := [7]) (M_ 0 8) (by kernel_rfl) rfl rfl ⟨(blk_cell dj.out 0).trans rfl, (blk_cell dj.out 1).trans rfl, (blk_cell dj.out 2).trans rfl⟩ (fun hHeld => ?_); refine with_tabW spec_l1Cur_madeSheet.tab11 spec_l1Cur_madeSheet.bits11 (fun HT_ HW_ => ?_)
       generalize wc.drew = I4 at bp dn dj HI0 HK HB hHeld ⊢
       refine pu_ 0 47 (M_ 1 7) ?_
       refine pu_ 3 50 (N_ 8 9) ?_
       refine tk3_ 1 48 (N_ 8 11) hHeld ?_
       refine pu_ 2 49 (M_ 4 4) ?_
       refine one_ (i := 4) (N := some 51) (M_ 5 3) rfl rfl (one_of HT_.out (by kernel_rfl)) (by decide) (fun K hK => ?_)
       refine goes_ Try.func45 (by kernel_rfl) rfl #[.pointer (some ⟨g, 0, none⟩), .int .i64 5] (by rfl) rfl rfl (Z107) ?_
       with_reducible refine (spec_l1Cur_pick.calls g s0_0 fO fP 5 nN yz yA w0 _ ?side1 ?side2 JE.out).mono ?_
       (case side1 => exact Z54)
       (case side2 => exact Z76)
       rintro e B9 ⟨rfl, hi, hb, hk⟩
       refine ⟨_, rfl, ?_⟩
       have n0_ := Aside0.mk (Kd.R_mono (Kd.R_keep (IsS69.apart (show IsS69 w0 _ g s0_0 fO fP from Z54) (Z2 bp) (by decide)) hk (fun _ h => h.2)) (fun _ h => h.1))
       have n1_ := Aside0.mk (Kd.R_mono (Kd.R_keep (IsS69.apart (show IsS69 w0 _ g s0_0 fO fP from Z54) (Z2 dn) (by decide)) hk (fun _ h => h.2)) (fun _ h => h.1))
       have n2_ := Aside0.mk (KeepBut.blk hk (g' := d4) (o := .cells #[.int .i64 ((rd_T90 cn bs).f0), .int .i64 ((rd_T90 cn bs).f1), .int .i64 ((rd_T90 cn bs).f2)] 90 (0, 0)) (Z1 dj) gI.out (by simp))
       have n3_ := Aside0.mk (KeepBut.trans (Z66) hk (.inl rfl))
       have n4_ := Aside0.mk (hb)
       have n5_ := Aside0.mk (hi)
       clear bp
       clear dn
       clear dj
       clear HK
       clear HB
       clear HI0
       have bp := n0_
       have dn := n1_
       have dj := n2_
       have HK := n3_
       have HB := n4_
       have HI0 := n5_
       clear n0_ n1_ n2_ n3_ n4_ n5_
       (try clear hb)
       (try clear hb2)
       (try clear hk)
       (try clear hi)
       refine hK.out _ _ ⟨(blk_cell dj.out 0).trans rfl, (blk_cell dj.out 1).trans rfl, (blk_cell dj.out 2).trans rfl⟩ (fun hHeld => ?_)
       clear hK K
       refine norm_ (a' := ?_) ?_ ?_
       rotate_left
       ·show Act.put _ (some 51) _ = _
        simp only [Act.put, List.setIfInBounds_toArray, List.set_cons_zero, List.set_cons_succ, i64_w, i32_w]
        rfl
       refine pu_ 5 52 (M_ 6 2) ?_
       refine pu_ 6 53 (M_ 7 1) ?_
       refine last_ (i := 7) (N := none) (M_ 8 0) rfl rfl (one_of HT_.out (by kernel_rfl)) (by decide) (fun K hK => ?_)
       have hs47 : B9.cell? ⟨d4, 2, none⟩ = some (.int .i64 ((rd_T90 cn bs).f2)) := (blk_cell dj.out 2).trans rfl
       have hfs47 := blk_frozen dj.out 2
       refine skip_ (w1 := ?_) (by rfl) rfl ?_ ?_
       rotate_left
       ·go_simp
        rfl
       refine hK.out _ _ ?_
       clear hK K
       refine done_ (done_of HT_.out (by kernel_rfl)) ?_
       have hnb48 := gI.out
       have hnc48 := iq.out
       obtain ⟨hcz49_0, hcz49_1, hcz49_2, hfz49_0, hfz49_1, hfz49_2⟩ := bx3_ (w := B9) dj.out
       obtain ⟨cA, cz, F4⟩ := Kd.R_slice bp.out
       subst F4
       try go_wp2_with ((with_reducible refine gate_callee (f := 105) rfl ?_); refine gl_ 57 Try.func105 #[.slice cA bt.length cz, .agg #[.int .i64 ((rd_T90 cn bs).f0), .int .i64 ((rd_T90 cn bs).f1), .int .i64 (wrap64 ((wrap64 (((rd_T90 cn bs).f1) + 4)) + nN))]] ?_; (with_reducible refine (spec_shWith.calls uB _ _ bt ((rd_T90 cn bs).f0) ((rd_T90 cn bs).f1) (wrap64 ((wrap64 (((rd_T90 cn bs).f1) + 4)) + nN)) GA false _ ?_ ?_ JF.out).mono ?_); exact (by refine (Kd.R_reads' (e := 90) (base := w.heap.size) (ok := fun k_ => (some k_ ≠ (.slice (some xH) cn.length qw : Value).ownBlock ∧ k_ ≠ d4)) (n := bt.length) (c := cz) ?_).2.2; exact (Z69 bp)); exact (Kd.R_reads' bp.out).2.1; rintro e JC ⟨v355, rfl, ho0, hb⟩; refine ⟨_, rfl, ?_⟩; refine k7_ (Kd.R_elder' (Z69 bp) (Kd.R_base ho0) hb) (Kd.R_elder' (Z69 dn) (Kd.R_base ho0) hb) (Kd.R_lower (Kd.R_newB (Kd.R_new' (Kd.R_new' ho0 (Kd.R_lt (Z69 bp))) (Kd.R_lt (Z69 dn))) (g := d4) (o := .cells #[.int .i64 ((rd_T90 cn bs).f0), .int .i64 ((rd_T90 cn bs).f1), .int .i64 (wrap64 ((wrap64 (((rd_T90 cn bs).f1) + 4)) + nN))] 90 (0, 0)) (Z139)) (keep_size (w := w) (g := g) (row := none) (Z66))) (blk_below (g := d4) (o := .cells #[.int .i64 ((rd_T90 cn bs).f0), .int .i64 ((rd_T90 cn bs).f1), .int .i64 (wrap64 ((wrap64 (((rd_T90 cn bs).f1) + 4)) + nN))] 90 (0, 0)) (Z139) hb) (IsS69.below (show IsS69 w0 (B9.setCell ⟨d4, 2, none⟩ (.int .i64 (wrap64 ((wrap64 (((rd_T90 cn bs).f1) + 4)) + nN)))) g s0_0 yz yA from Z54) hb) (KeepBut.trans (Z66) (KeepBut.of_below hb g none) (.inl rfl)) (below_step (Z76) hb) ?_; clear bp dn dj HI0 HK HB; intro bp dn E6 dj HI0 HK HB; (try clear hb ho0))
       go_roundg uB
       case measure => have := HK1.out; have := yJ.out; omega
       case rel => exact ⟨(bt), (wrap64 (bs + 1)), (yz), (yA), (Z41), H', ⟨Z264⟩, ⟨Z212 bp⟩, ⟨Z212 dn⟩, ⟨Z54⟩, ⟨Z66⟩, ⟨Z76⟩⟩
      replace c34 := Bool.eq_false_iff.mpr c34
      subst c34
      rw [if_neg (show ¬ (false = true) by decide)] at H
      obtain ⟨⟨GB, t361⟩, JG, H⟩ := bd_ H
      (try dsimp only at H)
      by_cases c53 : t361 = true
      ·subst c53
       rw [if_pos rfl] at H
       have H' := Aside0.mk H
       clear H
       have hnb54 := gI.out
       have hnc54 := iq.out
       obtain ⟨hcz55_0, hcz55_1, hcz55_2, hfz55_0, hfz55_1, hfz55_2⟩ := bx3_ (w := wc) dj.out
       obtain ⟨Ao56, co56, eo56⟩ := Kd.R_slice bp.out
       subst eo56
       go_wp2_with ((with_reducible refine gate_callee (f := 105) rfl ?_); refine gl_ 57 Try.func105 #[.slice Ao56 bt.length co56, .agg #[.int .i64 ((rd_T90 cn bs).f0), .int .i64 ((rd_T90 cn bs).f1), .int .i64 ((rd_T90 cn bs).f2)]] ?_; (with_reducible refine (spec_shWith.calls uB _ _ bt ((rd_T90 cn bs).f0) ((rd_T90 cn bs).f1) ((rd_T90 cn bs).f2) GB true _ ?_ ?_ JG.out).mono ?_); exact (Z7 bp); exact (Kd.R_reads' bp.out).2.1; rintro e w57 ⟨v359, rfl, ho0, hb⟩; refine ⟨_, rfl, ?_⟩; refine k7_ (Yb_ bp) (Yb_ dn) (Kd.R_lower (Kd.R_newB (Kd.R_new' (Kd.R_new' ho0 (Yd_ bp)) (Yd_ dn)) (g := d4) (o := .cells #[.int .i64 ((rd_T90 cn bs).f0), .int .i64 ((rd_T90 cn bs).f1), .int .i64 ((rd_T90 cn bs).f2)] 90 (0, 0)) (Z1 dj)) (keep_size (w := w) (g := g) (row := none) (Z66))) (Ye_ dj) (IsS69.below (Z54) hb) (KeepBut.trans (Z66) (KeepBut.of_below hb g none) (.inl rfl)) (below_step (Z76) hb) ?_; clear bp dn dj HI0 HK HB; intro bp dn E7 dj HI0 HK HB; (try clear hb ho0))
       go_roundg uB
       case measure => have := HK1.out; have := yJ.out; omega
       case rel => exact ⟨(GB), (wrap64 (bs + 1)), (fO), (fP), (Z41), H', ⟨Z264⟩, ⟨by (with_reducible repeat (first | apply Kd.R_alloc | apply Kd.R_drewN | apply Kd.R_drew)); exact Kd.R_mono E7.out (fun _ hk => hk.1.2)⟩, ⟨Z185 dn⟩, ⟨Z54⟩, ⟨Z66⟩, ⟨Z76⟩⟩
      replace c53 := Bool.eq_false_iff.mpr c53
      subst c53
      rw [if_neg (show ¬ (false = true) by decide)] at H
      have H' := Aside0.mk H
      clear H
      have hnb58 := gI.out
      have hnc58 := iq.out
      obtain ⟨hcz59_0, hcz59_1, hcz59_2, hfz59_0, hfz59_1, hfz59_2⟩ := bx3_ (w := wc) dj.out
      obtain ⟨Ao60, co60, eo60⟩ := Kd.R_slice bp.out
      subst eo60
      go_wp2_with ((with_reducible refine gate_callee (f := 105) rfl ?_); refine gl_ 57 Try.func105 #[.slice Ao60 bt.length co60, .agg #[.int .i64 ((rd_T90 cn bs).f0), .int .i64 ((rd_T90 cn bs).f1), .int .i64 ((rd_T90 cn bs).f2)]] ?_; (with_reducible refine (spec_shWith.calls uB _ _ bt ((rd_T90 cn bs).f0) ((rd_T90 cn bs).f1) ((rd_T90 cn bs).f2) GB false _ ?_ ?_ JG.out).mono ?_); exact (Z7 bp); exact (Kd.R_reads' bp.out).2.1; rintro e w61 ⟨v359, rfl, ho0, hb⟩; refine ⟨_, rfl, ?_⟩; refine k7_ (Yb_ bp) (Yb_ dn) (Kd.R_lower (Kd.R_newB (Kd.R_new' (Kd.R_new' ho0 (Yd_ bp)) (Yd_ dn)) (g := d4) (o := .cells #[.int .i64 ((rd_T90 cn bs).f0), .int .i64 ((rd_T90 cn bs).f1), .int .i64 ((rd_T90 cn bs).f2)] 90 (0, 0)) (Z1 dj)) (keep_size (w := w) (g := g) (row := none) (Z66))) (Ye_ dj) (IsS69.below (Z54) hb) (KeepBut.trans (Z66) (KeepBut.of_below hb g none) (.inl rfl)) (below_step (Z76) hb) ?_; clear bp dn dj HI0 HK HB; intro bp dn E7 dj HI0 HK HB; (try clear hb ho0))
      go_roundg uB
      case measure => have := HK1.out; have := yJ.out; omega
      case rel => exact ⟨(bt), (wrap64 (bs + 1)), (fO), (fP), (Z41), H', ⟨Z264⟩, ⟨Z212 bp⟩, ⟨Z212 dn⟩, ⟨Z54⟩, ⟨Z66⟩, ⟨Z76⟩⟩
   rw [if_neg c20] at H
   have nw : decide (bs < (cn.length : Int)) = false := decide_eq_false c20
   clear c20
   obtain ⟨⟨t362, BO, BP⟩, JH, H⟩ := bd_ H
   (try dsimp only at H)
   by_cases c63 : t362 = true
   ·subst c63
    rw [if_pos rfl] at H
    obtain ⟨⟨t365, t368, t369⟩, A64, H⟩ := bd_ H
    (try dsimp only at H)
    simp only [Option.some.injEq, Prod.mk.injEq] at H
    obtain ⟨rfl, rfl, rfl⟩ := H
    go_wp2_with (first | ((with_reducible refine gate_callee (f := 79) rfl ?_); refine gl_ 64 Try.func79 #[.pointer (some ⟨g, 0, none⟩), .int .i64 16] ?_; (with_reducible refine (spec_l1Cur_one.calls g s0_0 dy dz 16 true BO BP w0 _ ?_ ?_ JH.out).mono ?_); exact (Z8 HI0); exact Z10; rintro e w65 ⟨rfl, hi, hb, hk⟩; refine ⟨_, rfl, ?_⟩; refine k5_ (Kd.R_mono (Kd.R_keep (IsS69.apart (show IsS69 w0 _ g s0_0 dy dz from Z8 HI0) (Z2 bp) (by decide)) hk (fun _ h => h.2)) (fun _ h => h.1)) (Kd.R_mono (Kd.R_keep (IsS69.apart (show IsS69 w0 _ g s0_0 dy dz from Z8 HI0) (Z2 dn) (by decide)) hk (fun _ h => h.2)) (fun _ h => h.1)) (KeepBut.trans (Z9) hk (.inl rfl)) (hb) (hi) ?_; clear bp dn HK HB HI0; intro bp dn HK HB HI0; (try clear hb hk hi)) | ((with_reducible refine gate_callee (f := 80) rfl ?_); refine gl_ 66 Try.func80 #[.pointer (some ⟨g, 0, none⟩)] ?_; (with_reducible refine (spec_l1Cur_anySheet.calls k1 g s0_0 BO BP t365 t368 t369 w0 _ ?_ ?_ A64.out).mono ?_); exact (Z8 HI0); exact Z10; rintro e w66 ⟨v366, rfl, ho0, hi, hb, hk⟩; refine ⟨_, rfl, ?_⟩; refine k6_ (Kd.R_mono (Kd.R_told (Kd.R_oldK (IsS69.apart (show IsS69 w0 _ g s0_0 BO BP from Z8 HI0) (Z2 bp) (by decide)) hk) (Kd.R_base ho0)) (fun _ h_ => h_.1)) (Kd.R_mono (Kd.R_told (Kd.R_oldK (IsS69.apart (show IsS69 w0 _ g s0_0 BO BP from Z8 HI0) (Z2 dn) (by decide)) hk) (Kd.R_base ho0)) (fun _ h_ => h_.1)) (Kd.R_lower (Kd.R_new' (Kd.R_new' ho0 (Yd_ bp)) (Yd_ dn)) (keep_size (w := w) (g := g) (row := none) (Z9))) (KeepBut.trans (Z9) hk (.inl rfl)) (hb) (hi) ?_; clear bp dn HK HB HI0; intro bp dn HO367 HK HB HI0; (try clear hb hk hi ho0)))
    go_ret
    exact ⟨_, Z11, Z47 HO367, Z8 HI0, Z10, Z9⟩
   replace c63 := Bool.eq_false_iff.mpr c63
   subst c63
   rw [if_neg (show ¬ (false = true) by decide)] at H
   simp only [Option.some.injEq, Prod.mk.injEq] at H
   obtain ⟨rfl, rfl, rfl⟩ := H
   go_wp2_with ((with_reducible refine gate_callee (f := 79) rfl ?_); refine gl_ 64 Try.func79 #[.pointer (some ⟨g, 0, none⟩), .int .i64 16] ?_; (with_reducible refine (spec_l1Cur_one.calls g s0_0 dy dz 16 false BO BP w0 _ ?_ ?_ JH.out).mono ?_); exact (Z8 HI0); exact Z10; rintro e JA ⟨rfl, hi, hb, hk⟩; refine ⟨_, rfl, ?_⟩; refine k5_ (Kd.R_mono (Kd.R_keep (IsS69.apart (show IsS69 w0 _ g s0_0 dy dz from Z8 HI0) (Z2 bp) (by decide)) hk (fun _ h => h.2)) (fun _ h => h.1)) (Kd.R_mono (Kd.R_keep (IsS69.apart (show IsS69 w0 _ g s0_0 dy dz from Z8 HI0) (Z2 dn) (by decide)) hk (fun _ h => h.2)) (fun _ h => h.1)) (KeepBut.trans (Z9) hk (.inl rfl)) (hb) (hi) ?_; clear bp dn HK HB HI0; intro bp dn HK HB HI0; (try clear hb hk hi))
   go_ret
   exact ⟨_, Z11, Z47 bp, Z8 HI0, Z10, Z9⟩

end Go.Proofs.Ytmnnmddfmmaohaa.PFnPunchJobs
