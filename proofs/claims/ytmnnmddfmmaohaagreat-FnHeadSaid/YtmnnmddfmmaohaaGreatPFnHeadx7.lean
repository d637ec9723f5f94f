-- written by a program of this session: the kit's print, with outer functions of the session's own (wip/ext)
import Derived.Test.YtmnnmddfmmaohaaGreatPFnHeadx0
import Derived.Test.YtmnnmddfmmaohaaGreatPFnHeadx2
import Derived.Test.YtmnnmddfmmaohaaGreatPFnHeadx5
import Derived.Test.YtmnnmddfmmaohaaGreatPFnHeadx6
namespace Go.Proofs.YtmnnmddfmmaohaaGreat.PFnHead
open Go.RowKit Go.Proofs.YtmnnmddfmmaohaaGreatW.PrintWords Go.Proofs.YtmnnmddfmmaohaaGreatW.PrintLast Go.Proofs.YtmnnmddfmmaohaaGreatW.PrintMore
attribute [local go_sem] max2_int min2_int max_two min_two max_three min_three max_four min_four   -- for this text's walks alone
set_option linter.unusedVariables false
set_option linter.unusedSimpArgs false
theorem mo7_ {p : Prop} (h : p := by repeat' first | (with_reducible first | apply ih0 | apply ih0 | apply ih1 | apply ih1 | apply ih2 | apply ih2 | apply spec_l1Cur_anySheet.mono | apply spec_l1Cur_anySheet.mono | apply spec_l1Cur_sheet.mono | apply spec_l1Cur_sheet.mono | apply spec_shWith.mono | apply spec_shWith.mono | exact LeO.refl _ | exact LeO.none _ | refine LeO.ite ?_ ?_ | refine LeO.bind ?_ (fun _ => ?_)) | exact LeO.none _ | refine LeO.ite ?_ ?_ | refine LeO.bind ?_ (fun _ => ?_)) : p := h

/-! ### spec_l1Cur_madeSheet: function 40 -/
mutual
def spec_l1Cur_madeSheet.l0 : Nat → List (S76) → List Int → Int → Int → Option ((List (S76)) × Int × Int)
 | 0, _, _, _, _ => none
 | k + 1, x3, bm, bH, bI => if (x3.length : Int) < 20 then (if x3.length < 5864062014805 then (spec_l1Cur_madeSheet.l0 k (x3 ++ [(⟨(x3.length : Int), 0, 40⟩ : S76)]) bm bH bI) else (none)) else (if 19 < (x3.length : Int) then ((spec_l1Cur_pick.f bm bH bI 2).bind fun uS => (some ((x3.set (19 : Int).toNat (⟨(rd_T76 x3 19).f0, (rd_T76 x3 19).f1, wrap64 (((rd_T76 x3 19).f2) + uS.1)⟩ : S76)), uS.2.1, uS.2.2))) else (none))
def spec_l1Cur_madeSheet.l1 : Nat → List (S76) → List (S76) → Int → Int → List Int → Int → Int → Option ((List (S76)) × Int × Int)
 | 0, _, _, _, _, _, _, _ => none
 | k + 1, x3, x30, x31, x32, bm, bH, bI => if x32 < x31 then (if 0 ≤ x32 then (if x32 < (x30.length : Int) then (if (wrap64 (((rd_T76 x30 x32).f2) - ((rd_T76 x30 x32).f1))) < 4 then ((spec_l1Cur_one.f bm bH bI 20).bind fun uT => (spec_l1Cur_madeSheet.j2 k x3 x30 x31 x32 (!uT.1) bm uT.2.1 uT.2.2 ((rd_T76 x30 x32).f0) ((rd_T76 x30 x32).f1) ((rd_T76 x30 x32).f2))) else (spec_l1Cur_madeSheet.j2 k x3 x30 x31 x32 false bm bH bI ((rd_T76 x30 x32).f0) ((rd_T76 x30 x32).f1) ((rd_T76 x30 x32).f2))) else (none)) else (none)) else ((spec_l1Cur_one.f bm bH bI 16).bind fun o9 => (if o9.1 = true then ((spec_l1Cur_anySheet.f k bm o9.2.1 o9.2.2).bind fun uU => (some (uU.1, uU.2.1, uU.2.2))) else (some (x3, o9.2.1, o9.2.2))))
def spec_l1Cur_madeSheet.j2 : Nat → List (S76) → List (S76) → Int → Int → Bool → List Int → Int → Int → Int → Int → Int → Option ((List (S76)) × Int × Int)
 | 0, _, _, _, _, _, _, _, _, _, _, _ => none
 | k + 1, x3, x30, x31, x32, x46, bm, bH, bI, rx, mZ, x341002 => if x46 = true then ((spec_l1Cur_pick.f bm bH bI 5).bind fun pa => ((spec_shWith.f k x3 rx mZ (wrap64 ((wrap64 (mZ + 4)) + pa.1))).bind fun xZ => (if xZ.2 = true then (spec_l1Cur_madeSheet.l1 k xZ.1 x30 x31 (wrap64 (x32 + 1)) bm pa.2.1 pa.2.2) else (spec_l1Cur_madeSheet.l1 k x3 x30 x31 (wrap64 (x32 + 1)) bm pa.2.1 pa.2.2)))) else ((spec_shWith.f k x3 rx mZ x341002).bind fun ya => (if ya.2 = true then (spec_l1Cur_madeSheet.l1 k ya.1 x30 x31 (wrap64 (x32 + 1)) bm bH bI) else (spec_l1Cur_madeSheet.l1 k x3 x30 x31 (wrap64 (x32 + 1)) bm bH bI)))
end
def spec_l1Cur_madeSheet.f (k : Nat) (s0_0 : List Int) (s0_1 : Int) (s0_2 : Int) : Option ((List (S76)) × Int × Int) := (spec_l1Cur_one.f s0_0 s0_1 s0_2 20).bind fun gi => (if gi.1 = true then (spec_l1Cur_madeSheet.l0 k ([] : List (S76)) s0_0 gi.2.1 gi.2.2) else ((spec_l1Cur_sheet.f k s0_0 gi.2.1 gi.2.2).bind fun ib => (spec_l1Cur_madeSheet.l1 k ([] : List (S76)) ib.1 (ib.1.length : Int) 0 s0_0 ib.2.1 ib.2.2)))
theorem spec_l1Cur_madeSheet.mono_l : ∀ k, (∀ y0 y1 y2 y3, LeO (spec_l1Cur_madeSheet.l0 k y0 y1 y2 y3) (spec_l1Cur_madeSheet.l0 (k + 1) y0 y1 y2 y3)) ∧ (∀ y0 y1 y2 y3 y4 y5 y6, LeO (spec_l1Cur_madeSheet.l1 k y0 y1 y2 y3 y4 y5 y6) (spec_l1Cur_madeSheet.l1 (k + 1) y0 y1 y2 y3 y4 y5 y6)) ∧ (∀ y0 y1 y2 y3 y4 y5 y6 y7 y8 y9 tr, LeO (spec_l1Cur_madeSheet.j2 k y0 y1 y2 y3 y4 y5 y6 y7 y8 y9 tr) (spec_l1Cur_madeSheet.j2 (k + 1) y0 y1 y2 y3 y4 y5 y6 y7 y8 y9 tr))
 | 0 => ⟨fun _ _ _ _ r h => by simp [spec_l1Cur_madeSheet.l0] at h, fun _ _ _ _ _ _ _ r h => by simp [spec_l1Cur_madeSheet.l1] at h, fun _ _ _ _ _ _ _ _ _ _ _ r h => by simp [spec_l1Cur_madeSheet.j2] at h⟩
 | k + 1 => by
  obtain ⟨ih0, ih1, ih2⟩ := spec_l1Cur_madeSheet.mono_l k
  refine ⟨?_, ?_, ?_⟩
  ·intro y0 y1 y2 y3
   unfold spec_l1Cur_madeSheet.l0
   exact mo7_
  ·intro y0 y1 y2 y3 y4 y5 y6
   unfold spec_l1Cur_madeSheet.l1
   exact mo7_
  intro y0 y1 y2 y3 y4 y5 y6 y7 y8 y9 tr
  unfold spec_l1Cur_madeSheet.j2
  exact mo7_
theorem spec_l1Cur_madeSheet.mono : ∀ a0 a1 a2 k, LeO (spec_l1Cur_madeSheet.f k a0 a1 a2) (spec_l1Cur_madeSheet.f (k + 1) a0 a1 a2) := by
 intro a0 a1 a2 k
 obtain ⟨ih0, ih1, ih2⟩ := spec_l1Cur_madeSheet.mono_l k
 unfold spec_l1Cur_madeSheet.f
 exact mo7_
def spec_l1Cur_madeSheet.T5 : Bool × List (List Nat × List Nat) := (true, [([], []), ([0], [0]), ([1], [1]), ([2], [2]), ([], []), ([4], [4]), ([3, 5], [3, 5]), ([0, 0, 1, 2, 3, 4, 5, 6], [0]), ([7, 0, 1, 2, 3, 4, 5, 6], [7]), ([8, 6, 5, 0, 1, 2, 3, 4, 5, 6], [6, 8])])
def spec_l1Cur_madeSheet.B5 : List Nat := [0, 1, 3, 7, 0, 16, 63, 127, 255, 511]
theorem spec_l1Cur_madeSheet.tab5 : rtab .any (opsOf Tryz.f40 5) = spec_l1Cur_madeSheet.T5 := by kernel_rfl
theorem spec_l1Cur_madeSheet.bits5 : waitsOk spec_l1Cur_madeSheet.T5.2 spec_l1Cur_madeSheet.B5 = true := by kernel_rfl
def spec_l1Cur_madeSheet.T11 : Bool × List (List Nat × List Nat) := (true, [([], []), ([0], [0]), ([1], [1]), ([], []), ([3], [3]), ([2, 4], [2, 4]), ([0, 1, 2, 3, 4, 5], []), ([6, 5, 4, 0, 1, 2, 3, 4, 5], [5, 6])])
def spec_l1Cur_madeSheet.B11 : List Nat := [0, 1, 3, 0, 8, 31, 63, 127]
theorem spec_l1Cur_madeSheet.tab11 : rtab .any (opsOf Tryz.f40 11) = spec_l1Cur_madeSheet.T11 := by kernel_rfl
theorem spec_l1Cur_madeSheet.bits11 : waitsOk spec_l1Cur_madeSheet.T11.2 spec_l1Cur_madeSheet.B11 = true := by kernel_rfl
set_option maxHeartbeats 8000000 in
set_option maxRecDepth 100000 in
theorem spec_l1Cur_madeSheet.calls (k : Nat) (g : Nat) (s0_0 : List Int) (s0_1 : Int) (s0_2 : Int) (r1 : List (S76)) (r2 : Int) (r3 : Int) (w0 w : World) (hI : IsS45 w0 w g s0_0 s0_1 s0_2) (hB : Below w0.heap.size w0 w) (h : spec_l1Cur_madeSheet.f k s0_0 s0_1 s0_2 = some (r1, r2, r3)) :
  Calls Tryz.prog 40 #[.pointer (some ⟨g, 0, none⟩)] w fun e w' => ∃ v0_ : Value, e = .returned (v0_) ∧ Kd.R k76 76 w' w.heap.size (fun _ => True) v0_ r1 ∧ IsS45 w0 w' g s0_0 r2 r3 ∧ Below w0.heap.size w0 w' ∧ KeepBut w w' g none := by
 have hu76 := Tryz.underlying76
 have HI0 := Aside0.mk hI
 have HK := Aside0.mk (KeepBut.refl w g none)
 have HL := Aside0.mk hB.size
 clear hI
 have HW0 := Aside0.mk hB.size
 have HB := Aside0.mk hB
 clear hB
 have H : ((spec_l1Cur_one.f s0_0 s0_1 s0_2 20).bind fun gi => (if gi.1 = true then (spec_l1Cur_madeSheet.l0 k ([] : List (S76)) s0_0 gi.2.1 gi.2.2) else ((spec_l1Cur_sheet.f k s0_0 gi.2.1 gi.2.2).bind fun ib => (spec_l1Cur_madeSheet.l1 k ([] : List (S76)) ib.1 (ib.1.length : Int) 0 s0_0 ib.2.1 ib.2.2)))) = some (r1, r2, r3) := h
 clear h
 replace H := Option.bind_eq_some_iff.mp H
 obtain ⟨⟨t323, pb, pc⟩, cK, H⟩ := H
 (try dsimp only at H)
 have A2 := Aside0.mk cK
 clear cK
 by_cases c3 : t323 = true
 ·subst c3
  rw [if_pos rfl] at H
  have H' := Aside0.mk H
  clear H
  go_enter Tryz.func40, Tryz.ntmps40
  go_wp2_with ((with_reducible refine gate_callee (f := 41) rfl ?_); refine gl_ 9 Tryz.func41 #[.pointer (some ⟨g, 0, none⟩), .int .i64 20] ?_; (with_reducible refine (spec_l1Cur_one.calls g s0_0 s0_1 s0_2 20 true pb pc w0 _ ?_ ?_ A2.out).mono ?_); exact (Z3 HI0); exact Z8; rintro e w4 ⟨rfl, hi, hb, hk⟩; refine ⟨_, rfl, ?_⟩; refine k3_ (KeepBut.trans (Z7) hk (.inl rfl)) (hb) (hi) ?_; clear HK HB HI0; intro HK HB HI0; (try clear hb hk hi))
  (try simp only [Act.put, List.setIfInBounds_toArray, List.set_cons_zero, List.set_cons_succ])
  go_loopg [3] k (fun kq v3 w' => ∃ (az : List (S76)), Aside0 (spec_l1Cur_madeSheet.l0 kq az s0_0 pb pc = some (r1, r2, r3)) ∧ Aside0 (kq ≤ k) ∧ Aside0 (Kd.R k76 76 w' w.heap.size (fun _ => True) v3 az) ∧ Aside0 (IsS45 w0 w' g s0_0 pb pc) ∧ Aside0 (KeepBut w w' g none) ∧ Aside0 (Below w0.heap.size w0 w'))
  case atStart => exact ⟨(([] : List (S76))), H', ⟨Nat.le_refl _⟩, ⟨Z37⟩, ⟨Z3 HI0⟩, ⟨Z7⟩, ⟨Z8⟩⟩
  case round =>
   clear H'
   (try clear p2); (try clear c3); (try clear c4)
   obtain ⟨az, HA, HK1, am, HI0, HK, HB⟩ := hrel
   cases gk with
   | zero => exact absurd HA.out (by simp [spec_l1Cur_madeSheet.l0])
   | succ k1 =>
    have H := HA.out
    clear HA
    simp only [spec_l1Cur_madeSheet.l0] at H
    by_cases c5 : (az.length : Int) < 20
    ·rw [if_pos c5] at H
     have fX : decide ((az.length : Int) < 20) = true := decide_eq_true c5
     have pS : decide (az.length < 20) = true := decide_eq_true (by omega)
     clear c5
     by_cases c6 : az.length < 5864062014805
     ·rw [if_pos c6] at H
      have LMc6 := Aside0.mk c6
      clear c6
      obtain ⟨Cr, pd⟩ : ∃ y_ : List (S76), y_ = (az ++ [(⟨(az.length : Int), 0, 40⟩ : S76)]) := ⟨_, rfl⟩
      replace H : (spec_l1Cur_madeSheet.l0 k1 Cr s0_0 pb pc) = some (r1, r2, r3) := by first | (rw [pd]; with_reducible exact H) | (have H2_ := (Option.bind_some _ _).symm.trans H; rw [pd]; with_reducible exact H2_) | (have H2_ := (Option.bind_some _ _).symm.trans H; with_reducible exact H2_) | with_reducible exact H | (rw [pd]; exact H) | exact H
      have Ny326 := Aside0.mk pd
      clear pd
      have H' := Aside0.mk H
      clear H
      obtain ⟨gT, dc, DJ⟩ := Kd.R_slice am.out
      subst DJ
      go_wp2_with ((with_reducible refine gate_builtin (b := .append) (xs := #[.tmp 13, .tmp 17]) rfl ?_); at_builtin; refine Kd.R_append k76 w.heap.size rfl (.tmp 13) (.tmp 17) 58 76 (.agg #[(.int .i64 0), (.int .i64 0), (.int .i64 0)]) 24 rfl Tryz.underlying58 info76 rfl (by decide) (by omega) (.slice gT az.length dc) az (⟨(az.length : Int), 0, 40⟩ : S76) [.int .i64 (az.length : Int), .int .i64 0, .int .i64 40] (fun _ => True) (fun _ => False) rfl rfl ?aP (fun _ hk => hk.elim) ?aF ?aO (Below.refl _ _) ?aS ?aL ?_; (case aP => exact k76_mkM _ _ _ (⟨(az.length : Int), 0, 40⟩ : S76)); (case aF => exact (fun _ _ => trivial)); (case aO => exact (Z1 am)); (case aS => exact (keep_size (w := w) (g := g) (row := none) (Z7))); (case aL => exact Z76 LMc6); intro v327 w8 ho hb hg hat; rw [← Ny326.out] at ho; refine k4_ (IsS45.grown (Z3 HI0) hg (IsS45.own_ne HI0.out am.out (by decide))) (below_weaken (Z8) HL.out hb) (KeepBut.trans (Z7) (KeepBut.of_grown hg g) (Kd.R_base2 am.out)) (ho) ?_; clear HI0 HB HK am; intro HI0 HB HK HO328; clear ho hb hg hat)
      go_roundg k1
      case measure => have := HK1.out; omega
      case rel => exact ⟨(Cr), H', ⟨Z76 HK1⟩, ⟨Z1 HO328⟩, ⟨Z3 HI0⟩, ⟨Z7⟩, ⟨Z8⟩⟩
     rw [if_neg c6] at H
     exact absurd H (by simp)
    rw [if_neg c5] at H
    have fX : decide ((az.length : Int) < 20) = false := decide_eq_false c5
    have pS : decide (az.length < 20) = false := decide_eq_false (by omega)
    clear c5
    by_cases c9 : 19 < (az.length : Int)
    ·rw [if_pos c9] at H
     have iX : decide (19 < (az.length : Int)) = true := decide_eq_true c9
     have pX : decide (19 < az.length) = true := decide_eq_true (by omega)
     clear c9
     replace H := Option.bind_eq_some_iff.mp H
     obtain ⟨⟨uV, Cs, Ct⟩, sU, H⟩ := H
     (try dsimp only at H)
     have Db := Aside0.mk sU
     clear sU
     obtain ⟨y333, pe⟩ : ∃ y_ : List (S76), y_ = (az.set (19 : Int).toNat (⟨(rd_T76 az 19).f0, (rd_T76 az 19).f1, wrap64 (((rd_T76 az 19).f2) + uV)⟩ : S76)) := ⟨_, rfl⟩
     replace H : (some (y333, Cs, Ct)) = some (r1, r2, r3) := by first | (rw [pe]; with_reducible exact H) | (have H2_ := (Option.bind_some _ _).symm.trans H; rw [pe]; with_reducible exact H2_) | (have H2_ := (Option.bind_some _ _).symm.trans H; with_reducible exact H2_) | with_reducible exact H | (rw [pe]; exact H) | exact H
     have Ny333 := Aside0.mk pe
     clear pe
     simp only [Option.some.injEq, Prod.mk.injEq] at H
     obtain ⟨rfl, rfl, rfl⟩ := H
     obtain ⟨cj, ba, pY⟩ := Kd.R_slice am.out
     subst pY
     try go_wp2
     refine k4_ (Kd.R_drew am.out) (IsS45.drew HI0.out) (keep_drew HK.out) (below_drew1 HB.out) ?_
     clear am HI0 HK HB
     intro am HI0 HK HB
     have wv : 0 ≤ (19 : Int) := (by omega)
     have ww : 19 < (az.length : Int) := of_decide_eq_true (Z4)
     obtain ⟨js, e329, fI, fJ, fK⟩ := at_T76 (Kd.R_reads' am.out).2.2 19 wv ww
     cases e329
     (try simp only [show (19 : Int).toNat = 19 from rfl, Nat.reduceMul, Nat.reduceEqDiff, Go.Addr.add, ↓reduceIte] at fI)
     (try simp only [show (19 : Int).toNat = 19 from rfl, Nat.reduceMul, Nat.reduceEqDiff, Go.Addr.add, ↓reduceIte] at fJ)
     (try simp only [show (19 : Int).toNat = 19 from rfl, Nat.reduceMul, Nat.reduceEqDiff, Go.Addr.add, ↓reduceIte] at fK)
     have qi329 : (19 < az.length) = True := eq_true (by omega)
     (try rw [show ((19 : Int)).toNat = 19 from rfl] at fI)
     (try rw [show 19 * 3 = 57 from rfl] at fI)
     (try rw [show ((19 : Int)).toNat = 19 from rfl] at fJ)
     (try rw [show 19 * 3 = 57 from rfl] at fJ)
     (try rw [show ((19 : Int)).toNat = 19 from rfl] at fK)
     (try rw [show 19 * 3 = 57 from rfl] at fK)
     replace wv := eq_true wv
     replace ww := eq_true ww
     refine start_ (n := 10) (S := fun w' => w'.cell? ⟨js.block, js.off + 57, none⟩ = some (.int .i64 ((rd_T76 az 19).f0)) ∧ w'.cell? ⟨js.block, js.off + 57 + 1, none⟩ = some (.int .i64 ((rd_T76 az 19).f1)) ∧ w'.cell? ⟨js.block, js.off + 57 + 2, none⟩ = some (.int .i64 ((rd_T76 az 19).f2))) (ds := [9]) (M_ 0 10) (by kernel_rfl) rfl rfl ⟨fI, fJ, fK⟩ (fun hHeld => ?_); refine with_tabW spec_l1Cur_madeSheet.tab5 spec_l1Cur_madeSheet.bits5 (fun HT_ HW_ => ?_)
     generalize wr.drew = m8 at am HI0 HK HB fI fJ fK hHeld ⊢
     refine pu_ 0 19 (M_ 1 9) ?_
     refine pu_ 1 20 (M_ 2 8) ?_
     refine pu_ 2 21 (M_ 3 7) ?_
     refine pu_ 4 23 (N_ 10 23) ?_
     refine tk3_ 3 22 (M_ 5 5) hHeld ?_
     refine one_ (i := 5) (N := some 24) (M_ 6 4) rfl rfl (one_of HT_.out (by kernel_rfl)) (by decide) (fun K hK => ?_)
     refine goes_ Tryz.func22 (by kernel_rfl) rfl #[.pointer (some ⟨g, 0, none⟩), .int .i64 2] (by rfl) rfl rfl (Z58) ?_
     with_reducible refine (spec_l1Cur_pick.calls g s0_0 pb pc 2 uV Cs Ct w0 _ ?side1 ?side2 Db.out).mono ?_
     (case side1 => exact Z3 HI0)
     (case side2 => exact Z8)
     rintro e vE ⟨rfl, hi, hb, hk⟩
     have HS0_ := keep_cell hk (hHeld.1) (Z69)
     have HS1_ := keep_cell hk (hHeld.2.1) (Z69)
     have HS2_ := keep_cell hk (hHeld.2.2) (Z69)
     refine ⟨_, rfl, ?_⟩
     have n0_ := Aside0.mk (Kd.R_mono (Kd.R_keep (IsS45.apart (show IsS45 w0 _ g s0_0 pb pc from Z3 HI0) (Z1 am) (by decide)) hk (fun _ h => h.2)) (fun _ h => h.1))
     have n1_ := Aside0.mk (KeepBut.trans (Z7) hk (.inl rfl))
     have n2_ := Aside0.mk (hb)
     have n3_ := Aside0.mk (hi)
     clear am
     clear HK
     clear HB
     clear HI0
     have am := n0_
     have HK := n1_
     have HB := n2_
     have HI0 := n3_
     clear n0_ n1_ n2_ n3_
     (try clear hb)
     (try clear hb2)
     (try clear hk)
     (try clear hi)
     have Dm : 0 ≤ (19 : Int) := (by omega)
     have Dn : (19 : Int) < ((az.length : Int) : Int) := of_decide_eq_true (Z4)
     have qi11 : (19 < az.length) = True := eq_true (by omega)
     obtain ⟨go11, co11, wh, Cu, gl11, cl11, HG11⟩ := Kd.R_form am.out (by omega)
     (first | cases wh | (injection wh with ea_ en_ ec_; (first | subst ea_ | (injection ea_ with ea_; subst ea_)); subst ec_; clear en_))
     have GB11 := Aside0.mk Cu
     have GG11 := Aside0.mk HG11
     clear Cu gl11 HG11
     (first | simp only [add_plain] at fI | skip)
     (first | simp only [add_plain] at fJ | skip)
     (first | simp only [add_plain] at fK | skip)
     obtain ⟨ce11, hcl11, hM11, hcc11, hfr11⟩ := Kd.R_elem am.out z76 (19 : Int) Dm Dn
     obtain rfl := k76_openM hM11
     have qB : World.cell? _ ⟨go11, (19 : Int).toNat * 3, none⟩ = some (.int .i64 ((rd_T76 az 19).f0)) := hcc11 0 _ rfl
     have qC : World.cell? _ ⟨go11, (19 : Int).toNat * 3 + 1, none⟩ = some (.int .i64 ((rd_T76 az 19).f1)) := hcc11 1 _ rfl
     have qD : World.cell? _ ⟨go11, (19 : Int).toNat * 3 + 2, none⟩ = some (.int .i64 ((rd_T76 az 19).f2)) := hcc11 2 _ rfl
     have hf11_0 : World.frozen? _ ⟨go11, (19 : Int).toNat * 3, none⟩ = false := hfr11 0
     have hf11_1 : World.frozen? _ ⟨go11, (19 : Int).toNat * 3 + 1, none⟩ = false := hfr11 1
     have hf11_2 : World.frozen? _ ⟨go11, (19 : Int).toNat * 3 + 2, none⟩ = false := hfr11 2
     clear hcl11 hcc11 hfr11 hM11
     (try rw [show ((19 : Int)).toNat = 19 from rfl] at qB)
     (try simp only [Nat.reduceMul, Nat.zero_mul, Nat.zero_add, Nat.reduceAdd] at qB)
     (try rw [show ((19 : Int)).toNat = 19 from rfl] at hf11_0)
     (try simp only [Nat.reduceMul, Nat.zero_mul, Nat.zero_add, Nat.reduceAdd] at hf11_0)
     (try rw [show ((19 : Int)).toNat = 19 from rfl] at qC)
     (try simp only [Nat.reduceMul, Nat.zero_mul, Nat.zero_add, Nat.reduceAdd] at qC)
     (try rw [show ((19 : Int)).toNat = 19 from rfl] at hf11_1)
     (try simp only [Nat.reduceMul, Nat.zero_mul, Nat.zero_add, Nat.reduceAdd] at hf11_1)
     (try rw [show ((19 : Int)).toNat = 19 from rfl] at qD)
     (try simp only [Nat.reduceMul, Nat.zero_mul, Nat.zero_add, Nat.reduceAdd] at qD)
     (try rw [show ((19 : Int)).toNat = 19 from rfl] at hf11_2)
     (try simp only [Nat.reduceMul, Nat.zero_mul, Nat.zero_add, Nat.reduceAdd] at hf11_2)
     replace Dm := eq_true Dm
     replace Dn := eq_true Dn
     have HN0_go11 := Aside0.mk (show g ≠ go11 from by have h_ := IsS45.own_ne HI0.out am.out (by decide); intro e_; exact h_ (by rw [e_]; rfl))
     obtain ⟨ce15, hcl15, hM15, hcc15, hfr15⟩ := Kd.R_elem am.out z76 (19 : Int) (by omega) (Z146)
     obtain rfl := k76_openM hM15
     have HP15 := (Kd.R_seg am.out (19 : Int) (by omega) (Z146) (seg := [.int .i64 (wrap64 (((rd_T76 az 19).f2) + uV))]) (j := 2) hcl15 hcc15 (show 3 ≤ 3 from by decide) (x' := (⟨(rd_T76 az 19).f0, (rd_T76 az 19).f1, wrap64 (((rd_T76 az 19).f2) + uV)⟩ : S76)) (k76_mkM _ _ _ (⟨(rd_T76 az 19).f0, (rd_T76 az 19).f1, wrap64 (((rd_T76 az 19).f2) + uV)⟩ : S76) ) (fun _ hk => hk)).1
     rw [← Ny333.out] at HP15
     have HQ15 := Aside0.mk HP15
     clear hcl15 hcc15 hfr15 hM15 HP15
     refine hK.out _ _ ⟨HS0_, HS1_, HS2_⟩ (fun hHeld => ?_)
     clear hK K
     refine norm_ (a' := ?_) ?_ ?_
     rotate_left
     ·show Act.put _ (some 24) _ = _
      simp only [Act.put, List.setIfInBounds_toArray, List.set_cons_zero, List.set_cons_succ, i64_w, i32_w]
      rfl
     refine pu_ 6 25 (M_ 7 3) ?_
     refine pu_ 7 26 (M_ 8 2) ?_
     refine pu_ 8 27 (M_ 9 1) ?_
     refine last_ (i := 9) (N := none) (M_ 10 0) rfl rfl (one_of HT_.out (by kernel_rfl)) (by decide) (fun K hK => ?_)
     refine skip_ (w1 := ?_) (by rfl) rfl ?_ ?_
     rotate_left
     ·go_simp
      rfl
     refine hK.out _ _ ?_
     clear hK K
     refine done_ (done_of HT_.out (by kernel_rfl)) ?_
     try go_wp2
     go_ret
     exact ⟨_, Z12, Z1 HQ15, by repeat (first | (with_reducible first | exact HI0.out | apply IsS45.alloc | apply IsS45.drewN | apply IsS45.drew | apply IsS45.set_1 | apply IsS45.set_2 | refine IsS45.far ?_ HN0_go11.out _) | exact HI0.out), by repeat (first | (with_reducible first | exact HB.out | apply below_alloc | apply pw_below_drewN | apply below_drew1 | refine below_set ?_ (Nat.le_trans HL.out GB11.out) | refine below_set ?_ (IsS45.ge HI0.out)) | exact HB.out), by repeat (first | (with_reducible first | exact HK.out | apply KeepBut.set_ | apply keep_drewN | apply keep_drew | apply keep_alloc | refine keep_far ?_ GB11.out _) | exact HK.out)⟩
    rw [if_neg c9] at H
    exact absurd H (by simp)
 replace c3 := Bool.eq_false_iff.mpr c3
 subst c3
 rw [if_neg (show ¬ (false = true) by decide)] at H
 replace H := Option.bind_eq_some_iff.mp H
 obtain ⟨⟨aN, Cv, Cw⟩, uW, H⟩ := H
 (try dsimp only at H)
 have DO := Aside0.mk uW
 clear uW
 have H' := Aside0.mk H
 clear H
 go_enter Tryz.func40, Tryz.ntmps40
 go_wp2_with (first | ((with_reducible refine gate_callee (f := 41) rfl ?_); refine gl_ 9 Tryz.func41 #[.pointer (some ⟨g, 0, none⟩), .int .i64 20] ?_; (with_reducible refine (spec_l1Cur_one.calls g s0_0 s0_1 s0_2 20 false pb pc w0 _ ?_ ?_ A2.out).mono ?_); exact (Z3 HI0); exact Z8; rintro e vC ⟨rfl, hi, hb, hk⟩; refine ⟨_, rfl, ?_⟩; refine k3_ (KeepBut.trans (Z7) hk (.inl rfl)) (hb) (hi) ?_; clear HK HB HI0; intro HK HB HI0; (try clear hb hk hi)) | ((with_reducible refine gate_callee (f := 57) rfl ?_); refine gl_ 30 Tryz.func57 #[.pointer (some ⟨g, 0, none⟩)] ?_; (with_reducible refine (spec_l1Cur_sheet.calls k g s0_0 pb pc aN Cv Cw w0 _ ?_ ?_ DO.out).mono ?_); exact (Z3 HI0); exact Z8; rintro e Da ⟨v335, rfl, ho0, hi, hb, hk⟩; refine ⟨_, rfl, ?_⟩; refine k4_ (Kd.R_lower ho0 (keep_size (w := w) (g := g) (row := none) (Z7))) (KeepBut.trans (Z7) hk (.inl rfl)) (hb) (hi) ?_; clear HK HB HI0; intro yb HK HB HI0; (try clear hb hk hi ho0); obtain ⟨tv, lE, tw⟩ := Kd.R_slice yb.out; subst tw))
 (try simp only [Act.put, List.setIfInBounds_toArray, List.set_cons_zero, List.set_cons_succ])
 go_loopg [3, 32] k (fun kq v3 v32 w' => ∃ (az : List (S76)) (ay : Int) (bb : Int) (bc : Int), v32 = .int .i64 ay ∧ Aside0 (spec_l1Cur_madeSheet.l1 kq az aN (aN.length : Int) ay s0_0 bb bc = some (r1, r2, r3)) ∧ Aside0 (kq ≤ k) ∧ Aside0 (Kd.R k76 76 w' w.heap.size (fun k_ => some k_ ≠ ((.slice tv aN.length lE) : Value).ownBlock) v3 az) ∧ Aside0 (Kd.R k76 76 w' w.heap.size (fun k_ => some k_ ≠ (v3 : Value).ownBlock) (.slice tv aN.length lE) aN) ∧ Aside0 (IsS45 w0 w' g s0_0 bb bc) ∧ Aside0 (KeepBut w w' g none) ∧ Aside0 (Below w0.heap.size w0 w'))
 case atStart => exact ⟨(([] : List (S76))), (0), (Cv), (Cw), (Z16), H', ⟨Nat.le_refl _⟩, ⟨Z37⟩, ⟨Z164 yb⟩, ⟨Z3 HI0⟩, ⟨Z7⟩, ⟨Z8⟩⟩
 case round =>
  clear H'
  (try clear c1); (try clear p1); (try clear q1); (try clear hx1); (try clear qi1); (try clear hf1); (try clear c2); (try clear p2); (try clear c3); (try clear p3); (try clear q3); (try clear hx3); (try clear qi3); (try clear c4); (try clear c5); (try clear fX); (try clear pS); (try clear c6); (try clear p6); (try clear c9); (try clear iX); (try clear pX); (try clear c11); (try clear Dm); (try clear Dn); (try clear hx11); (try clear qi11); (try clear hf11); (try clear c15); (try clear qB); (try clear qC); (try clear qD); (try clear fI); (try clear fJ); (try clear fK); (try clear wv); (try clear ww)
  obtain ⟨az, ay, bb, bc, rfl, HA, HK1, am, aX, HI0, HK, HB⟩ := hrel
  cases gk with
  | zero => exact absurd HA.out (by simp [spec_l1Cur_madeSheet.l1])
  | succ k1 =>
   have H := HA.out
   clear HA
   simp only [spec_l1Cur_madeSheet.l1] at H
   by_cases c20 : ay < (aN.length : Int)
   ·rw [if_pos c20] at H
    have ea : decide (ay < (aN.length : Int)) = true := decide_eq_true c20
    clear c20
    by_cases c21 : 0 ≤ ay
    ·rw [if_pos c21] at H
     have iF : decide (0 ≤ ay) = true := decide_eq_true c21
     clear c21
     by_cases c22 : ay < (aN.length : Int)
     ·rw [if_pos c22] at H
      have m9 : decide (ay < (aN.length : Int)) = true := decide_eq_true c22
      clear c22
      have HC23 := Aside0.mk H
      clear H
      have wx : 0 ≤ (ay : Int) := of_decide_eq_true (Z4)
      have wy : ay < (aN.length : Int) := of_decide_eq_true (Z4)
      obtain ⟨ry, e339, hx339_0, hx339_1, hx339_2⟩ := at_T76 (Kd.R_reads' aX.out).2.2 ay wx wy
      cases e339
      replace wx := eq_true wx
      replace wy := eq_true wy
      go_upto_region 10 with ((with_reducible refine gate_dst (N := 5) rfl ?_); refine bv_ 5 76 #[.int .i64 0, .int .i64 0, .int .i64 0] ?_; intro bp hg jE hbox hb; refine k10_ (Kd.R_below (Kd.R_elderB (Z1 am) bp (Nat.le_of_eq hg.symm)) hb) (Kd.R_below (Kd.R_elderB (Z1 aX) bp (Nat.le_of_eq hg.symm)) hb) (IsS45.below (Z3 HI0) hb) (KeepBut.trans (Z7) (KeepBut.of_below hb g none) (.inl rfl)) (below_step (Z8) hb) (hbox) ((Z70 : w.heap.size ≤ bp)) ((Nat.le_trans HW0.out (Z70 : w.heap.size ≤ bp) : w0.heap.size ≤ bp)) ((by rw [hg]; exact Nat.ne_of_lt (IsS45.lt (show IsS45 w0 _ g s0_0 bb bc from Z3 HI0)) : g ≠ bp)) ((by rw [hg]; exact Nat.ne_of_gt (IsS45.lt (show IsS45 w0 _ g s0_0 bb bc from Z3 HI0)) : bp ≠ g)) ?_; clear am aX HI0 HK HB; intro am aX HI0 HK HB aW GW340 GE340 eC dx; clear hb hbox hg; have hnb25 := dx.out; have hnc25 := eC.out; obtain ⟨hcz26_0, hcz26_1, hcz26_2, hfz26_0, hfz26_1, hfz26_2⟩ := bx3_ (w := jE) aW.out)
      (try simp only [Act.put, List.setIfInBounds_toArray, List.set_cons_zero, List.set_cons_succ])
      go_cut [46] (fun v46 wc => ∃ (kq : Nat) (m0 : Bool) (cF : Int) (cG : Int), v46 = .bool m0 ∧ Aside0 (spec_l1Cur_madeSheet.j2 kq az aN (aN.length : Int) ay m0 s0_0 cF cG ((rd_T76 aN ay).f0) ((rd_T76 aN ay).f1) ((rd_T76 aN ay).f2) = some (r1, r2, r3)) ∧ Aside0 (kq ≤ k1) ∧ Aside0 (Kd.R k76 76 wc w.heap.size (fun k_ => some k_ ≠ ((.slice (some ry) aN.length lE) : Value).ownBlock ∧ k_ ≠ bp) u3 az) ∧ Aside0 (Kd.R k76 76 wc w.heap.size (fun k_ => some k_ ≠ (u3 : Value).ownBlock ∧ k_ ≠ bp) (.slice (some ry) aN.length lE) aN) ∧ Aside0 (wc.heap[bp]? = some (.cells #[.int .i64 ((rd_T76 aN ay).f0), .int .i64 ((rd_T76 aN ay).f1), .int .i64 ((rd_T76 aN ay).f2)] 76 (0, 0))) ∧ Aside0 (IsS45 w0 wc g s0_0 cF cG) ∧ Aside0 (KeepBut w wc g none) ∧ Aside0 (Below w0.heap.size w0 wc))
      case first =>
       have H := HC23.out
       clear HC23
       by_cases c27 : (wrap64 (((rd_T76 aN ay).f2) - ((rd_T76 aN ay).f1))) < 4
       ·rw [if_pos c27] at H
        have ek : decide ((wrap64 (((rd_T76 aN ay).f2) - ((rd_T76 aN ay).f1))) < 4) = true := decide_eq_true c27
        clear c27
        (first | rw [ek] | (simp only [i64_w, i32_w]; rw [ek]) | skip)
        replace H := Option.bind_eq_some_iff.mp H
        obtain ⟨⟨Cx, Cy, Cz⟩, gV, H⟩ := H
        (try dsimp only at H)
        have gW := Aside0.mk gV
        clear gV
        have H' := Aside0.mk H
        clear H
        have hnb29 := dx.out
        have hnc29 := eC.out
        obtain ⟨hcz30_0, hcz30_1, hcz30_2, hfz30_0, hfz30_1, hfz30_2⟩ := bx3_ (w := jE) aW.out
        go_wp2_with (go_at_call 41; (with_reducible refine (spec_l1Cur_one.calls g s0_0 bb bc 20 Cx Cy Cz w0 _ ?_ ?_ gW.out).mono ?_); exact Z20; exact Z36; rintro e vz ⟨rfl, hi, hb, hk⟩; refine k6_ (Kd.R_mono (Kd.R_keep (IsS45.apart (show IsS45 w0 _ g s0_0 bb bc from Z20) (Z88 am) (by decide)) hk (fun _ h => h.2)) (fun _ h => h.1)) (Kd.R_mono (Kd.R_keep (IsS45.apart (show IsS45 w0 _ g s0_0 bb bc from Z20) (Z88 aX) (by decide)) hk (fun _ h => h.2)) (fun _ h => h.1)) (KeepBut.blk hk (g' := bp) (o := .cells #[.int .i64 ((rd_T76 aN ay).f0), .int .i64 ((rd_T76 aN ay).f1), .int .i64 ((rd_T76 aN ay).f2)] 76 (0, 0)) (Z66) dx.out (by simp)) (KeepBut.trans (Z30) hk (.inl rfl)) (hb) (hi) ?_; clear am aX aW HK HB HI0; intro am aX aW HK HB HI0; (try clear hb hk hi))
        go_meet
        case rel => exact ⟨_, (!Cx), (Cy), (Cz), (Z16), H', ⟨Z96 HK1⟩, ⟨Z1 am⟩, ⟨Z1 aX⟩, ⟨Z6 aW⟩, ⟨Z20⟩, ⟨Z30⟩, ⟨Z36⟩⟩
       rw [if_neg c27] at H
       have ek : decide ((wrap64 (((rd_T76 aN ay).f2) - ((rd_T76 aN ay).f1))) < 4) = false := decide_eq_false c27
       clear c27
       (first | rw [ek] | (simp only [i64_w, i32_w]; rw [ek]) | skip)
       have H' := Aside0.mk H
       clear H
       have hnb32 := dx.out
       have hnc32 := eC.out
       obtain ⟨hcz33_0, hcz33_1, hcz33_2, hfz33_0, hfz33_1, hfz33_2⟩ := bx3_ (w := jE) aW.out
       go_wp2
       go_meet
       case rel => exact ⟨_, (false), (bb), (bc), (Z16), H', ⟨Z96 HK1⟩, ⟨Z87 am⟩, ⟨Z87 aX⟩, ⟨Z66⟩, ⟨Z20⟩, ⟨Z30⟩, ⟨Z36⟩⟩
      case rest =>
       clear HC23
       (try clear c20); (try clear ea); (try clear c21); (try clear iF); (try clear c22); (try clear m9); (try clear c25); (try clear c27); (try clear ek); (try clear c29); (try clear c32); (try clear p32); (try clear q32); (try clear hx32); (try clear qi32); (try clear CA); (try clear CB); (try clear hx33); (try clear hcz26_0); (try clear hcz26_1); (try clear hcz26_2); (try clear hcz30_0); (try clear hcz30_1); (try clear hcz30_2); (try clear hcz33_0); (try clear hcz33_1); (try clear hcz33_2); (try clear hfz26_0); (try clear hfz26_1); (try clear hfz26_2); (try clear hfz30_0); (try clear hfz30_1); (try clear hfz30_2); (try clear hfz33_0); (try clear hfz33_1); (try clear hfz33_2); (try clear hx339_0); (try clear hx339_1); (try clear hx339_2); (try clear wx); (try clear wy)
       obtain ⟨kq, m0, cF, cG, rfl, HA, sB, am, aX, aW, HI0, HK, HB⟩ := hcut
       cases kq with
       | zero => exact absurd HA.out (by simp [spec_l1Cur_madeSheet.j2])
       | succ pf =>
        have H := HA.out
        clear HA
        simp only [spec_l1Cur_madeSheet.j2] at H
        by_cases c34 : m0 = true
        ·subst c34
         rw [if_pos rfl] at H
         replace H := Option.bind_eq_some_iff.mp H
         obtain ⟨⟨ip, sl, sm⟩, tz, H⟩ := H
         (try dsimp only at H)
         have Dc := Aside0.mk tz
         clear tz
         replace H := Option.bind_eq_some_iff.mp H
         obtain ⟨⟨zY, t350⟩, CC, H⟩ := H
         (try dsimp only at H)
         have D9 := Aside0.mk CC
         clear CC
         by_cases c37 : t350 = true
         ·subst c37
          rw [if_pos rfl] at H
          have H' := Aside0.mk H
          clear H
          try go_wp2
          refine k6_ (Kd.R_drew am.out) (Kd.R_drew aX.out) (blk_drew aW.out) (IsS45.drew HI0.out) (keep_drew HK.out) (below_drew1 HB.out) ?_
          clear am aX aW HI0 HK HB
          intro am aX aW HI0 HK HB
          refine start_ (n := 8) (S := fun w' => w'.cell? ⟨bp, 0, none⟩ = some (.int .i64 ((rd_T76 aN ay).f0)) ∧ w'.cell? ⟨bp, 1, none⟩ = some (.int .i64 ((rd_T76 aN ay).f1)) ∧ w'.cell? ⟨bp, 2, none⟩ = some (.int .i64 ((rd_T76 aN ay).f2))) (ds := [7]) (M_ 0 8) (by kernel_rfl) rfl rfl ⟨(blk_cell aW.out 0).trans rfl, (blk_cell aW.out 1).trans rfl, (blk_cell aW.out 2).trans rfl⟩ (fun hHeld => ?_); refine with_tabW spec_l1Cur_madeSheet.tab11 spec_l1Cur_madeSheet.bits11 (fun HT_ HW_ => ?_)
          generalize wc.drew = dz at am aX aW HI0 HK HB hHeld ⊢
          refine pu_ 0 47 (M_ 1 7) ?_
          refine pu_ 3 50 (N_ 8 9) ?_
          refine tk3_ 1 48 (N_ 8 11) hHeld ?_
          refine pu_ 2 49 (M_ 4 4) ?_
          refine one_ (i := 4) (N := some 51) (M_ 5 3) rfl rfl (one_of HT_.out (by kernel_rfl)) (by decide) (fun K hK => ?_)
          refine goes_ Tryz.func22 (by kernel_rfl) rfl #[.pointer (some ⟨g, 0, none⟩), .int .i64 5] (by rfl) rfl rfl (Z58) ?_
          with_reducible refine (spec_l1Cur_pick.calls g s0_0 cF cG 5 ip sl sm w0 _ ?side1 ?side2 Dc.out).mono ?_
          (case side1 => exact Z20)
          (case side2 => exact Z36)
          rintro e Bg ⟨rfl, hi, hb, hk⟩
          refine ⟨_, rfl, ?_⟩
          have n0_ := Aside0.mk (Kd.R_mono (Kd.R_keep (IsS45.apart (show IsS45 w0 _ g s0_0 cF cG from Z20) (Z1 am) (by decide)) hk (fun _ h => h.2)) (fun _ h => h.1))
          have n1_ := Aside0.mk (Kd.R_mono (Kd.R_keep (IsS45.apart (show IsS45 w0 _ g s0_0 cF cG from Z20) (Z1 aX) (by decide)) hk (fun _ h => h.2)) (fun _ h => h.1))
          have n2_ := Aside0.mk (KeepBut.blk hk (g' := bp) (o := .cells #[.int .i64 ((rd_T76 aN ay).f0), .int .i64 ((rd_T76 aN ay).f1), .int .i64 ((rd_T76 aN ay).f2)] 76 (0, 0)) (Z6 aW) dx.out (by simp))
          have n3_ := Aside0.mk (KeepBut.trans (Z30) hk (.inl rfl))
          have n4_ := Aside0.mk (hb)
          have n5_ := Aside0.mk (hi)
          clear am
          clear aX
          clear aW
          clear HK
          clear HB
          clear HI0
          have am := n0_
          have aX := n1_
          have aW := n2_
          have HK := n3_
          have HB := n4_
          have HI0 := n5_
          clear n0_ n1_ n2_ n3_ n4_ n5_
          (try clear hb)
          (try clear hb2)
          (try clear hk)
          (try clear hi)
          refine hK.out _ _ ⟨(blk_cell aW.out 0).trans rfl, (blk_cell aW.out 1).trans rfl, (blk_cell aW.out 2).trans rfl⟩ (fun hHeld => ?_)
          clear hK K
          refine norm_ (a' := ?_) ?_ ?_
          rotate_left
          ·show Act.put _ (some 51) _ = _
           simp only [Act.put, List.setIfInBounds_toArray, List.set_cons_zero, List.set_cons_succ, i64_w, i32_w]
           rfl
          refine pu_ 5 52 (M_ 6 2) ?_
          refine pu_ 6 53 (M_ 7 1) ?_
          refine last_ (i := 7) (N := none) (M_ 8 0) rfl rfl (one_of HT_.out (by kernel_rfl)) (by decide) (fun K hK => ?_)
          have hs40 : Bg.cell? ⟨bp, 2, none⟩ = some (.int .i64 ((rd_T76 aN ay).f2)) := (blk_cell aW.out 2).trans rfl
          have hfs40 := blk_frozen aW.out 2
          refine skip_ (w1 := ?_) (by rfl) rfl ?_ ?_
          rotate_left
          ·go_simp
           rfl
          refine hK.out _ _ ?_
          clear hK K
          refine done_ (done_of HT_.out (by kernel_rfl)) ?_
          have hnb41 := dx.out
          have hnc41 := eC.out
          obtain ⟨hcz42_0, hcz42_1, hcz42_2, hfz42_0, hfz42_1, hfz42_2⟩ := bx3_ (w := Bg) aW.out
          obtain ⟨Ao43, CD, eo43⟩ := Kd.R_slice am.out
          subst eo43
          try go_wp2_with ((with_reducible refine gate_callee (f := 58) rfl ?_); refine gl_ 57 Tryz.func58 #[.slice Ao43 az.length CD, .agg #[.int .i64 ((rd_T76 aN ay).f0), .int .i64 ((rd_T76 aN ay).f1), .int .i64 (wrap64 ((wrap64 (((rd_T76 aN ay).f1) + 4)) + ip))]] ?_; (with_reducible refine (spec_shWith.calls pf _ _ az ((rd_T76 aN ay).f0) ((rd_T76 aN ay).f1) (wrap64 ((wrap64 (((rd_T76 aN ay).f1) + 4)) + ip)) zY true _ ?_ ?_ D9.out).mono ?_); exact (by refine (Kd.R_reads' (e := 76) (base := w.heap.size) (ok := fun k_ => (some k_ ≠ (.slice (some ry) aN.length lE : Value).ownBlock ∧ k_ ≠ bp)) (n := az.length) (c := CD) ?_).2.2; exact (Z31 am)); exact (Kd.R_reads' am.out).2.1; rintro e Bu ⟨v348, rfl, ho0, hb⟩; refine ⟨_, rfl, ?_⟩; refine k7_ (Kd.R_elder' (Z31 am) (Kd.R_base ho0) hb) (Kd.R_elder' (Z31 aX) (Kd.R_base ho0) hb) (Kd.R_lower (Kd.R_newB (Kd.R_new' (Kd.R_new' ho0 (Kd.R_lt (Z31 am))) (Kd.R_lt (Z31 aX))) (g := bp) (o := .cells #[.int .i64 ((rd_T76 aN ay).f0), .int .i64 ((rd_T76 aN ay).f1), .int .i64 (wrap64 ((wrap64 (((rd_T76 aN ay).f1) + 4)) + ip))] 76 (0, 0)) (Z59)) (keep_size (w := w) (g := g) (row := none) (Z30))) (blk_below (g := bp) (o := .cells #[.int .i64 ((rd_T76 aN ay).f0), .int .i64 ((rd_T76 aN ay).f1), .int .i64 (wrap64 ((wrap64 (((rd_T76 aN ay).f1) + 4)) + ip))] 76 (0, 0)) (Z59) hb) (IsS45.below (show IsS45 w0 (Bg.setCell ⟨bp, 2, none⟩ (.int .i64 (wrap64 ((wrap64 (((rd_T76 aN ay).f1) + 4)) + ip)))) g s0_0 sl sm from Z20) hb) (KeepBut.trans (Z30) (KeepBut.of_below hb g none) (.inl rfl)) (below_step (Z36) hb) ?_; clear am aX aW HI0 HK HB; intro am aX yc aW HI0 HK HB; (try clear hb ho0))
          go_roundg pf
          case measure => have := HK1.out; have := sB.out; omega
          case rel => exact ⟨(zY), (wrap64 (ay + 1)), (sl), (sm), (Z16), H', ⟨Z159⟩, ⟨by (with_reducible repeat (first | apply Kd.R_alloc | apply Kd.R_drewN | apply Kd.R_drew)); exact Kd.R_mono yc.out (fun _ hk => hk.1.2)⟩, ⟨Z26 aX⟩, ⟨Z20⟩, ⟨Z30⟩, ⟨Z36⟩⟩
         replace c37 := Bool.eq_false_iff.mpr c37
         subst c37
         rw [if_neg (show ¬ (false = true) by decide)] at H
         have H' := Aside0.mk H
         clear H
         try go_wp2
         refine k6_ (Kd.R_drew am.out) (Kd.R_drew aX.out) (blk_drew aW.out) (IsS45.drew HI0.out) (keep_drew HK.out) (below_drew1 HB.out) ?_
         clear am aX aW HI0 HK HB
         intro am aX aW HI0 HK HB
         refine start_ (n := 8) (S := fun w' => w'.cell? ⟨bp, 0, none⟩ = some (.int .i64 ((rd_T76 aN ay).f0)) ∧ w'.cell? ⟨bp, 1, none⟩ = some (.int .i64 ((rd_T76 aN ay).f1)) ∧ w'.cell? ⟨bp, 2, none⟩ = some (.int .i64 ((rd_T76 aN ay).f2))) (ds := [7]) (M_ 0 8) (by kernel_rfl) rfl rfl ⟨(blk_cell aW.out 0).trans rfl, (blk_cell aW.out 1).trans rfl, (blk_cell aW.out 2).trans rfl⟩ (fun hHeld => ?_); refine with_tabW spec_l1Cur_madeSheet.tab11 spec_l1Cur_madeSheet.bits11 (fun HT_ HW_ => ?_)
         generalize wc.drew = Dh at am aX aW HI0 HK HB hHeld ⊢
         refine pu_ 0 47 (M_ 1 7) ?_
         refine pu_ 3 50 (N_ 8 9) ?_
         refine tk3_ 1 48 (N_ 8 11) hHeld ?_
         refine pu_ 2 49 (M_ 4 4) ?_
         refine one_ (i := 4) (N := some 51) (M_ 5 3) rfl rfl (one_of HT_.out (by kernel_rfl)) (by decide) (fun K hK => ?_)
         refine goes_ Tryz.func22 (by kernel_rfl) rfl #[.pointer (some ⟨g, 0, none⟩), .int .i64 5] (by rfl) rfl rfl (Z58) ?_
         with_reducible refine (spec_l1Cur_pick.calls g s0_0 cF cG 5 ip sl sm w0 _ ?side1 ?side2 Dc.out).mono ?_
         (case side1 => exact Z20)
         (case side2 => exact Z36)
         rintro e e6 ⟨rfl, hi, hb, hk⟩
         refine ⟨_, rfl, ?_⟩
         have n0_ := Aside0.mk (Kd.R_mono (Kd.R_keep (IsS45.apart (show IsS45 w0 _ g s0_0 cF cG from Z20) (Z1 am) (by decide)) hk (fun _ h => h.2)) (fun _ h => h.1))
         have n1_ := Aside0.mk (Kd.R_mono (Kd.R_keep (IsS45.apart (show IsS45 w0 _ g s0_0 cF cG from Z20) (Z1 aX) (by decide)) hk (fun _ h => h.2)) (fun _ h => h.1))
         have n2_ := Aside0.mk (KeepBut.blk hk (g' := bp) (o := .cells #[.int .i64 ((rd_T76 aN ay).f0), .int .i64 ((rd_T76 aN ay).f1), .int .i64 ((rd_T76 aN ay).f2)] 76 (0, 0)) (Z6 aW) dx.out (by simp))
         have n3_ := Aside0.mk (KeepBut.trans (Z30) hk (.inl rfl))
         have n4_ := Aside0.mk (hb)
         have n5_ := Aside0.mk (hi)
         clear am
         clear aX
         clear aW
         clear HK
         clear HB
         clear HI0
         have am := n0_
         have aX := n1_
         have aW := n2_
         have HK := n3_
         have HB := n4_
         have HI0 := n5_
         clear n0_ n1_ n2_ n3_ n4_ n5_
         (try clear hb)
         (try clear hb2)
         (try clear hk)
         (try clear hi)
         refine hK.out _ _ ⟨(blk_cell aW.out 0).trans rfl, (blk_cell aW.out 1).trans rfl, (blk_cell aW.out 2).trans rfl⟩ (fun hHeld => ?_)
         clear hK K
         refine norm_ (a' := ?_) ?_ ?_
         rotate_left
         ·show Act.put _ (some 51) _ = _
          simp only [Act.put, List.setIfInBounds_toArray, List.set_cons_zero, List.set_cons_succ, i64_w, i32_w]
          rfl
         refine pu_ 5 52 (M_ 6 2) ?_
         refine pu_ 6 53 (M_ 7 1) ?_
         refine last_ (i := 7) (N := none) (M_ 8 0) rfl rfl (one_of HT_.out (by kernel_rfl)) (by decide) (fun K hK => ?_)
         have hs47 : e6.cell? ⟨bp, 2, none⟩ = some (.int .i64 ((rd_T76 aN ay).f2)) := (blk_cell aW.out 2).trans rfl
         have hfs47 := blk_frozen aW.out 2
         refine skip_ (w1 := ?_) (by rfl) rfl ?_ ?_
         rotate_left
         ·go_simp
          rfl
         refine hK.out _ _ ?_
         clear hK K
         refine done_ (done_of HT_.out (by kernel_rfl)) ?_
         have hnb48 := dx.out
         have hnc48 := eC.out
         obtain ⟨hcz49_0, hcz49_1, hcz49_2, hfz49_0, hfz49_1, hfz49_2⟩ := bx3_ (w := e6) aW.out
         obtain ⟨Ao50, CE, eo50⟩ := Kd.R_slice am.out
         subst eo50
         try go_wp2_with ((with_reducible refine gate_callee (f := 58) rfl ?_); refine gl_ 57 Tryz.func58 #[.slice Ao50 az.length CE, .agg #[.int .i64 ((rd_T76 aN ay).f0), .int .i64 ((rd_T76 aN ay).f1), .int .i64 (wrap64 ((wrap64 (((rd_T76 aN ay).f1) + 4)) + ip))]] ?_; (with_reducible refine (spec_shWith.calls pf _ _ az ((rd_T76 aN ay).f0) ((rd_T76 aN ay).f1) (wrap64 ((wrap64 (((rd_T76 aN ay).f1) + 4)) + ip)) zY false _ ?_ ?_ D9.out).mono ?_); exact (by refine (Kd.R_reads' (e := 76) (base := w.heap.size) (ok := fun k_ => (some k_ ≠ (.slice (some ry) aN.length lE : Value).ownBlock ∧ k_ ≠ bp)) (n := az.length) (c := CE) ?_).2.2; exact (Z31 am)); exact (Kd.R_reads' am.out).2.1; rintro e Bv ⟨v348, rfl, ho0, hb⟩; refine ⟨_, rfl, ?_⟩; refine k7_ (Kd.R_elder' (Z31 am) (Kd.R_base ho0) hb) (Kd.R_elder' (Z31 aX) (Kd.R_base ho0) hb) (Kd.R_lower (Kd.R_newB (Kd.R_new' (Kd.R_new' ho0 (Kd.R_lt (Z31 am))) (Kd.R_lt (Z31 aX))) (g := bp) (o := .cells #[.int .i64 ((rd_T76 aN ay).f0), .int .i64 ((rd_T76 aN ay).f1), .int .i64 (wrap64 ((wrap64 (((rd_T76 aN ay).f1) + 4)) + ip))] 76 (0, 0)) (Z59)) (keep_size (w := w) (g := g) (row := none) (Z30))) (blk_below (g := bp) (o := .cells #[.int .i64 ((rd_T76 aN ay).f0), .int .i64 ((rd_T76 aN ay).f1), .int .i64 (wrap64 ((wrap64 (((rd_T76 aN ay).f1) + 4)) + ip))] 76 (0, 0)) (Z59) hb) (IsS45.below (show IsS45 w0 (e6.setCell ⟨bp, 2, none⟩ (.int .i64 (wrap64 ((wrap64 (((rd_T76 aN ay).f1) + 4)) + ip)))) g s0_0 sl sm from Z20) hb) (KeepBut.trans (Z30) (KeepBut.of_below hb g none) (.inl rfl)) (below_step (Z36) hb) ?_; clear am aX aW HI0 HK HB; intro am aX yc aW HI0 HK HB; (try clear hb ho0))
         go_roundg pf
         case measure => have := HK1.out; have := sB.out; omega
         case rel => exact ⟨(az), (wrap64 (ay + 1)), (sl), (sm), (Z16), H', ⟨Z159⟩, ⟨Z103 am⟩, ⟨Z103 aX⟩, ⟨Z20⟩, ⟨Z30⟩, ⟨Z36⟩⟩
        replace c34 := Bool.eq_false_iff.mpr c34
        subst c34
        rw [if_neg (show ¬ (false = true) by decide)] at H
        replace H := Option.bind_eq_some_iff.mp H
        obtain ⟨⟨zZ, t354⟩, CF, H⟩ := H
        (try dsimp only at H)
        have Ea := Aside0.mk CF
        clear CF
        by_cases c53 : t354 = true
        ·subst c53
         rw [if_pos rfl] at H
         have H' := Aside0.mk H
         clear H
         have hnb54 := dx.out
         have hnc54 := eC.out
         obtain ⟨hcz55_0, hcz55_1, hcz55_2, hfz55_0, hfz55_1, hfz55_2⟩ := bx3_ (w := wc) aW.out
         obtain ⟨Ao56, co56, eo56⟩ := Kd.R_slice am.out
         subst eo56
         go_wp2_with ((with_reducible refine gate_callee (f := 58) rfl ?_); refine gl_ 57 Tryz.func58 #[.slice Ao56 az.length co56, .agg #[.int .i64 ((rd_T76 aN ay).f0), .int .i64 ((rd_T76 aN ay).f1), .int .i64 ((rd_T76 aN ay).f2)]] ?_; (with_reducible refine (spec_shWith.calls pf _ _ az ((rd_T76 aN ay).f0) ((rd_T76 aN ay).f1) ((rd_T76 aN ay).f2) zZ true _ ?_ ?_ Ea.out).mono ?_); exact (Z5 am); exact (Kd.R_reads' am.out).2.1; rintro e w57 ⟨v352, rfl, ho0, hb⟩; refine ⟨_, rfl, ?_⟩; refine k7_ (Yb_ am) (Yb_ aX) (Kd.R_lower (Kd.R_newB (Kd.R_new' (Kd.R_new' ho0 (Yd_ am)) (Yd_ aX)) (g := bp) (o := .cells #[.int .i64 ((rd_T76 aN ay).f0), .int .i64 ((rd_T76 aN ay).f1), .int .i64 ((rd_T76 aN ay).f2)] 76 (0, 0)) (Z6 aW)) (keep_size (w := w) (g := g) (row := none) (Z30))) (Ye_ aW) (IsS45.below (Z20) hb) (KeepBut.trans (Z30) (KeepBut.of_below hb g none) (.inl rfl)) (below_step (Z36) hb) ?_; clear am aX aW HI0 HK HB; intro am aX yd aW HI0 HK HB; (try clear hb ho0))
         go_roundg pf
         case measure => have := HK1.out; have := sB.out; omega
         case rel => exact ⟨(zZ), (wrap64 (ay + 1)), (cF), (cG), (Z16), H', ⟨Z159⟩, ⟨by (with_reducible repeat (first | apply Kd.R_alloc | apply Kd.R_drewN | apply Kd.R_drew)); exact Kd.R_mono yd.out (fun _ hk => hk.1.2)⟩, ⟨Z26 aX⟩, ⟨Z20⟩, ⟨Z30⟩, ⟨Z36⟩⟩
        replace c53 := Bool.eq_false_iff.mpr c53
        subst c53
        rw [if_neg (show ¬ (false = true) by decide)] at H
        have H' := Aside0.mk H
        clear H
        have hnb58 := dx.out
        have hnc58 := eC.out
        obtain ⟨hcz59_0, hcz59_1, hcz59_2, hfz59_0, hfz59_1, hfz59_2⟩ := bx3_ (w := wc) aW.out
        obtain ⟨Ao60, co60, eo60⟩ := Kd.R_slice am.out
        subst eo60
        go_wp2_with ((with_reducible refine gate_callee (f := 58) rfl ?_); refine gl_ 57 Tryz.func58 #[.slice Ao60 az.length co60, .agg #[.int .i64 ((rd_T76 aN ay).f0), .int .i64 ((rd_T76 aN ay).f1), .int .i64 ((rd_T76 aN ay).f2)]] ?_; (with_reducible refine (spec_shWith.calls pf _ _ az ((rd_T76 aN ay).f0) ((rd_T76 aN ay).f1) ((rd_T76 aN ay).f2) zZ false _ ?_ ?_ Ea.out).mono ?_); exact (Z5 am); exact (Kd.R_reads' am.out).2.1; rintro e Dg ⟨v352, rfl, ho0, hb⟩; refine ⟨_, rfl, ?_⟩; refine k7_ (Yb_ am) (Yb_ aX) (Kd.R_lower (Kd.R_newB (Kd.R_new' (Kd.R_new' ho0 (Yd_ am)) (Yd_ aX)) (g := bp) (o := .cells #[.int .i64 ((rd_T76 aN ay).f0), .int .i64 ((rd_T76 aN ay).f1), .int .i64 ((rd_T76 aN ay).f2)] 76 (0, 0)) (Z6 aW)) (keep_size (w := w) (g := g) (row := none) (Z30))) (Ye_ aW) (IsS45.below (Z20) hb) (KeepBut.trans (Z30) (KeepBut.of_below hb g none) (.inl rfl)) (below_step (Z36) hb) ?_; clear am aX aW HI0 HK HB; intro am aX yd aW HI0 HK HB; (try clear hb ho0))
        go_roundg pf
        case measure => have := HK1.out; have := sB.out; omega
        case rel => exact ⟨(az), (wrap64 (ay + 1)), (cF), (cG), (Z16), H', ⟨Z159⟩, ⟨Z103 am⟩, ⟨Z103 aX⟩, ⟨Z20⟩, ⟨Z30⟩, ⟨Z36⟩⟩
     rw [if_neg c22] at H
     exact absurd H (by simp)
    rw [if_neg c21] at H
    exact absurd H (by simp)
   rw [if_neg c20] at H
   have ea : decide (ay < (aN.length : Int)) = false := decide_eq_false c20
   clear c20
   replace H := Option.bind_eq_some_iff.mp H
   obtain ⟨⟨t355, uX, uY⟩, CG, H⟩ := H
   (try dsimp only at H)
   have Eb := Aside0.mk CG
   clear CG
   by_cases c63 : t355 = true
   ·subst c63
    rw [if_pos rfl] at H
    replace H := Option.bind_eq_some_iff.mp H
    obtain ⟨⟨t358, t361, t362⟩, CH, H⟩ := H
    (try dsimp only at H)
    have A64 := Aside0.mk CH
    clear CH
    simp only [Option.some.injEq, Prod.mk.injEq] at H
    obtain ⟨rfl, rfl, rfl⟩ := H
    go_wp2_with (first | ((with_reducible refine gate_callee (f := 41) rfl ?_); refine gl_ 64 Tryz.func41 #[.pointer (some ⟨g, 0, none⟩), .int .i64 16] ?_; (with_reducible refine (spec_l1Cur_one.calls g s0_0 bb bc 16 true uX uY w0 _ ?_ ?_ Eb.out).mono ?_); exact (Z3 HI0); exact Z8; rintro e w65 ⟨rfl, hi, hb, hk⟩; refine ⟨_, rfl, ?_⟩; refine k5_ (Kd.R_mono (Kd.R_keep (IsS45.apart (show IsS45 w0 _ g s0_0 bb bc from Z3 HI0) (Z1 am) (by decide)) hk (fun _ h => h.2)) (fun _ h => h.1)) (Kd.R_mono (Kd.R_keep (IsS45.apart (show IsS45 w0 _ g s0_0 bb bc from Z3 HI0) (Z1 aX) (by decide)) hk (fun _ h => h.2)) (fun _ h => h.1)) (KeepBut.trans (Z7) hk (.inl rfl)) (hb) (hi) ?_; clear am aX HK HB HI0; intro am aX HK HB HI0; (try clear hb hk hi)) | ((with_reducible refine gate_callee (f := 59) rfl ?_); refine gl_ 66 Tryz.func59 #[.pointer (some ⟨g, 0, none⟩)] ?_; (with_reducible refine (spec_l1Cur_anySheet.calls k1 g s0_0 uX uY t358 t361 t362 w0 _ ?_ ?_ A64.out).mono ?_); exact (Z3 HI0); exact Z8; rintro e fT ⟨v359, rfl, ho0, hi, hb, hk⟩; refine ⟨_, rfl, ?_⟩; refine k6_ (Kd.R_mono (Kd.R_told (Kd.R_oldK (IsS45.apart (show IsS45 w0 _ g s0_0 uX uY from Z3 HI0) (Z1 am) (by decide)) hk) (Kd.R_base ho0)) (fun _ h_ => h_.1)) (Kd.R_mono (Kd.R_told (Kd.R_oldK (IsS45.apart (show IsS45 w0 _ g s0_0 uX uY from Z3 HI0) (Z1 aX) (by decide)) hk) (Kd.R_base ho0)) (fun _ h_ => h_.1)) (Kd.R_lower (Kd.R_new' (Kd.R_new' ho0 (Yd_ am)) (Yd_ aX)) (keep_size (w := w) (g := g) (row := none) (Z7))) (KeepBut.trans (Z7) hk (.inl rfl)) (hb) (hi) ?_; clear am aX HK HB HI0; intro am aX HO360 HK HB HI0; (try clear hb hk hi ho0)))
    go_ret
    exact ⟨_, Z12, Z35 HO360, Z3 HI0, Z8, Z7⟩
   replace c63 := Bool.eq_false_iff.mpr c63
   subst c63
   rw [if_neg (show ¬ (false = true) by decide)] at H
   simp only [Option.some.injEq, Prod.mk.injEq] at H
   obtain ⟨rfl, rfl, rfl⟩ := H
   go_wp2_with ((with_reducible refine gate_callee (f := 41) rfl ?_); refine gl_ 64 Tryz.func41 #[.pointer (some ⟨g, 0, none⟩), .int .i64 16] ?_; (with_reducible refine (spec_l1Cur_one.calls g s0_0 bb bc 16 false uX uY w0 _ ?_ ?_ Eb.out).mono ?_); exact (Z3 HI0); exact Z8; rintro e w67 ⟨rfl, hi, hb, hk⟩; refine ⟨_, rfl, ?_⟩; refine k5_ (Kd.R_mono (Kd.R_keep (IsS45.apart (show IsS45 w0 _ g s0_0 bb bc from Z3 HI0) (Z1 am) (by decide)) hk (fun _ h => h.2)) (fun _ h => h.1)) (Kd.R_mono (Kd.R_keep (IsS45.apart (show IsS45 w0 _ g s0_0 bb bc from Z3 HI0) (Z1 aX) (by decide)) hk (fun _ h => h.2)) (fun _ h => h.1)) (KeepBut.trans (Z7) hk (.inl rfl)) (hb) (hi) ?_; clear am aX HK HB HI0; intro am aX HK HB HI0; (try clear hb hk hi))
   go_ret
   exact ⟨_, Z12, Z35 am, Z3 HI0, Z8, Z7⟩

end Go.Proofs.YtmnnmddfmmaohaaGreat.PFnHead
