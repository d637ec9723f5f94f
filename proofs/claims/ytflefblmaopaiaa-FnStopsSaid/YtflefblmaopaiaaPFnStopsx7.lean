-- written by a program of this session: the kit's print, with outer functions of the session's own (wip/ext)
import Derived.Test.YtflefblmaopaiaaPFnStopsx0
import Derived.Test.YtflefblmaopaiaaPFnStopsx2
import Derived.Test.YtflefblmaopaiaaPFnStopsx5
import Derived.Test.YtflefblmaopaiaaPFnStopsx6
namespace Go.Proofs.Ytflefblmaopaiaa.PFnStops
open Go.RowKit Go.Proofs.YtflefblmaopaiaaW.PrintWords Go.Proofs.YtflefblmaopaiaaW.PrintLast Go.Proofs.YtflefblmaopaiaaW.PrintMore
attribute [local go_sem] max2_int min2_int max_two min_two max_three min_three max_four min_four   -- for this text's walks alone
set_option linter.unusedVariables false
set_option linter.unusedSimpArgs false
theorem mo7_ {p : Prop} (h : p := by repeat' first | (with_reducible first | apply ih0 | apply ih0 | apply ih1 | apply ih1 | apply ih2 | apply ih2 | apply spec_l1Cur_anySheet.mono | apply spec_l1Cur_anySheet.mono | apply spec_l1Cur_sheet.mono | apply spec_l1Cur_sheet.mono | apply spec_shWith.mono | apply spec_shWith.mono | exact LeO.refl _ | exact LeO.none _ | refine LeO.ite ?_ ?_ | refine LeO.bind ?_ (fun _ => ?_)) | exact LeO.none _ | refine LeO.ite ?_ ?_ | refine LeO.bind ?_ (fun _ => ?_)) : p := h

/-! ### spec_l1Cur_madeSheet: function 25 -/
mutual
def spec_l1Cur_madeSheet.l0 : Nat → List (S64) → List Int → Int → Int → Option ((List (S64)) × Int × Int)
 | 0, _, _, _, _ => none
 | k + 1, x3, x1000, x1001, x1002 => if (x3.length : Int) < 20 then (if x3.length < 5864062014805 then (spec_l1Cur_madeSheet.l0 k (x3 ++ [(⟨(x3.length : Int), 0, 40⟩ : S64)]) x1000 x1001 x1002) else (none)) else (if 19 < (x3.length : Int) then ((spec_l1Cur_pick.f x1000 x1001 x1002 2).bind fun bt314 => (some ((x3.set (19 : Int).toNat (⟨(rd_T64 x3 19).f0, (rd_T64 x3 19).f1, wrap64 (((rd_T64 x3 19).f2) + bt314.1)⟩ : S64)), bt314.2.1, bt314.2.2))) else (none))
def spec_l1Cur_madeSheet.l1 : Nat → List (S64) → List (S64) → Int → Int → List Int → Int → Int → Option ((List (S64)) × Int × Int)
 | 0, _, _, _, _, _, _, _ => none
 | k + 1, x3, x30, x31, x32, x1000, x1001, x1002 => if x32 < x31 then (if 0 ≤ x32 then (if x32 < (x30.length : Int) then (if (wrap64 (((rd_T64 x30 x32).f2) - ((rd_T64 x30 x32).f1))) < 4 then ((spec_l1Cur_one.f x1000 x1001 x1002 20).bind fun bt325 => (spec_l1Cur_madeSheet.j2 k x3 x30 x31 x32 (!bt325.1) x1000 bt325.2.1 bt325.2.2 ((rd_T64 x30 x32).f0) ((rd_T64 x30 x32).f1) ((rd_T64 x30 x32).f2))) else (spec_l1Cur_madeSheet.j2 k x3 x30 x31 x32 false x1000 x1001 x1002 ((rd_T64 x30 x32).f0) ((rd_T64 x30 x32).f1) ((rd_T64 x30 x32).f2))) else (none)) else (none)) else ((spec_l1Cur_one.f x1000 x1001 x1002 16).bind fun bt339 => (if bt339.1 = true then ((spec_l1Cur_anySheet.f k x1000 bt339.2.1 bt339.2.2).bind fun bt342 => (some (bt342.1, bt342.2.1, bt342.2.2))) else (some (x3, bt339.2.1, bt339.2.2))))
def spec_l1Cur_madeSheet.j2 : Nat → List (S64) → List (S64) → Int → Int → Bool → List Int → Int → Int → Int → Int → Int → Option ((List (S64)) × Int × Int)
 | 0, _, _, _, _, _, _, _, _, _, _, _ => none
 | k + 1, x3, x30, x31, x32, x46, x1000, x1001, x1002, x325000, x325001, x325002 => if x46 = true then ((spec_l1Cur_pick.f x1000 x1001 x1002 5).bind fun bt328 => ((spec_shWith.f k x3 x325000 x325001 (wrap64 ((wrap64 (x325001 + 4)) + bt328.1))).bind fun bt331 => (if bt331.2 = true then (spec_l1Cur_madeSheet.l1 k bt331.1 x30 x31 (wrap64 (x32 + 1)) x1000 bt328.2.1 bt328.2.2) else (spec_l1Cur_madeSheet.l1 k x3 x30 x31 (wrap64 (x32 + 1)) x1000 bt328.2.1 bt328.2.2)))) else ((spec_shWith.f k x3 x325000 x325001 x325002).bind fun bt335 => (if bt335.2 = true then (spec_l1Cur_madeSheet.l1 k bt335.1 x30 x31 (wrap64 (x32 + 1)) x1000 x1001 x1002) else (spec_l1Cur_madeSheet.l1 k x3 x30 x31 (wrap64 (x32 + 1)) x1000 x1001 x1002)))
end
def spec_l1Cur_madeSheet.f (k : Nat) (s0_0 : List Int) (s0_1 : Int) (s0_2 : Int) : Option ((List (S64)) × Int × Int) := (spec_l1Cur_one.f s0_0 s0_1 s0_2 20).bind fun bt307 => (if bt307.1 = true then (spec_l1Cur_madeSheet.l0 k ([] : List (S64)) s0_0 bt307.2.1 bt307.2.2) else ((spec_l1Cur_sheet.f k s0_0 bt307.2.1 bt307.2.2).bind fun bt318 => (spec_l1Cur_madeSheet.l1 k ([] : List (S64)) bt318.1 (bt318.1.length : Int) 0 s0_0 bt318.2.1 bt318.2.2)))
theorem spec_l1Cur_madeSheet.mono_l : ∀ k, (∀ y0 y1 y2 y3, LeO (spec_l1Cur_madeSheet.l0 k y0 y1 y2 y3) (spec_l1Cur_madeSheet.l0 (k + 1) y0 y1 y2 y3)) ∧ (∀ y0 y1 y2 y3 y4 y5 y6, LeO (spec_l1Cur_madeSheet.l1 k y0 y1 y2 y3 y4 y5 y6) (spec_l1Cur_madeSheet.l1 (k + 1) y0 y1 y2 y3 y4 y5 y6)) ∧ (∀ y0 y1 y2 y3 y4 y5 y6 y7 y8 y9 y10, LeO (spec_l1Cur_madeSheet.j2 k y0 y1 y2 y3 y4 y5 y6 y7 y8 y9 y10) (spec_l1Cur_madeSheet.j2 (k + 1) y0 y1 y2 y3 y4 y5 y6 y7 y8 y9 y10))
 | 0 => ⟨fun _ _ _ _ r h => by simp [spec_l1Cur_madeSheet.l0] at h, fun _ _ _ _ _ _ _ r h => by simp [spec_l1Cur_madeSheet.l1] at h, fun _ _ _ _ _ _ _ _ _ _ _ r h => by simp [spec_l1Cur_madeSheet.j2] at h⟩
 | k + 1 => by
  obtain ⟨ih0, ih1, ih2⟩ := spec_l1Cur_madeSheet.mono_l k
  refine ⟨?_, ?_, ?_⟩
  ·intro y0 y1 y2 y3
   unfold spec_l1Cur_madeSheet.l0
   exact mo7_
  ·intro y0 y1 y2 y3 y4 y5 y6
   unfold spec_l1Cur_madeSheet.l1
   exact mo7_
  intro y0 y1 y2 y3 y4 y5 y6 y7 y8 y9 y10
  unfold spec_l1Cur_madeSheet.j2
  exact mo7_
theorem spec_l1Cur_madeSheet.mono : ∀ a0 a1 a2 k, LeO (spec_l1Cur_madeSheet.f k a0 a1 a2) (spec_l1Cur_madeSheet.f (k + 1) a0 a1 a2) := by
 intro a0 a1 a2 k
 obtain ⟨ih0, ih1, ih2⟩ := spec_l1Cur_madeSheet.mono_l k
 unfold spec_l1Cur_madeSheet.f
 exact mo7_
def spec_l1Cur_madeSheet.T5 : Bool × List (List Nat × List Nat) := (true, [([], []), ([0], [0]), ([1], [1]), ([2], [2]), ([], []), ([4], [4]), ([3, 5], [3, 5]), ([0, 0, 1, 2, 3, 4, 5, 6], [0]), ([7, 0, 1, 2, 3, 4, 5, 6], [7]), ([8, 6, 5, 0, 1, 2, 3, 4, 5, 6], [6, 8])])
def spec_l1Cur_madeSheet.B5 : List Nat := [0, 1, 3, 7, 0, 16, 63, 127, 255, 511]
theorem spec_l1Cur_madeSheet.tab5 : rtab .any (opsOf Try.f25 5) = spec_l1Cur_madeSheet.T5 := by kernel_rfl
theorem spec_l1Cur_madeSheet.bits5 : waitsOk spec_l1Cur_madeSheet.T5.2 spec_l1Cur_madeSheet.B5 = true := by kernel_rfl
def spec_l1Cur_madeSheet.T11 : Bool × List (List Nat × List Nat) := (true, [([], []), ([0], [0]), ([1], [1]), ([], []), ([3], [3]), ([2, 4], [2, 4]), ([0, 1, 2, 3, 4, 5], []), ([6, 5, 4, 0, 1, 2, 3, 4, 5], [5, 6])])
def spec_l1Cur_madeSheet.B11 : List Nat := [0, 1, 3, 0, 8, 31, 63, 127]
theorem spec_l1Cur_madeSheet.tab11 : rtab .any (opsOf Try.f25 11) = spec_l1Cur_madeSheet.T11 := by kernel_rfl
theorem spec_l1Cur_madeSheet.bits11 : waitsOk spec_l1Cur_madeSheet.T11.2 spec_l1Cur_madeSheet.B11 = true := by kernel_rfl
set_option maxHeartbeats 8000000 in
set_option maxRecDepth 100000 in
theorem spec_l1Cur_madeSheet.calls (k : Nat) (g : Nat) (s0_0 : List Int) (s0_1 : Int) (s0_2 : Int) (r1 : List (S64)) (r2 : Int) (r3 : Int) (w0 w : World) (hI : IsS49 w0 w g s0_0 s0_1 s0_2) (hB : Below w0.heap.size w0 w) (h : spec_l1Cur_madeSheet.f k s0_0 s0_1 s0_2 = some (r1, r2, r3)) :
  Calls Try.prog 25 #[.pointer (some ⟨g, 0, none⟩)] w fun e w' => ∃ v0_ : Value, e = .returned (v0_) ∧ Kd.R k64 64 w' w.heap.size (fun _ => True) v0_ r1 ∧ IsS49 w0 w' g s0_0 r2 r3 ∧ Below w0.heap.size w0 w' ∧ KeepBut w w' g none := by
 have hu64 := Try.underlying64
 have HI0 := Aside0.mk hI
 have HK := Aside0.mk (KeepBut.refl w g none)
 have HL := Aside0.mk hB.size
 clear hI
 have HW0 := Aside0.mk hB.size
 have HB := Aside0.mk hB
 clear hB
 have H : ((spec_l1Cur_one.f s0_0 s0_1 s0_2 20).bind fun bt307 => (if bt307.1 = true then (spec_l1Cur_madeSheet.l0 k ([] : List (S64)) s0_0 bt307.2.1 bt307.2.2) else ((spec_l1Cur_sheet.f k s0_0 bt307.2.1 bt307.2.2).bind fun bt318 => (spec_l1Cur_madeSheet.l1 k ([] : List (S64)) bt318.1 (bt318.1.length : Int) 0 s0_0 bt318.2.1 bt318.2.2)))) = some (r1, r2, r3) := h
 clear h
 replace H := Option.bind_eq_some_iff.mp H
 obtain ⟨⟨t307, t308, t309⟩, A20, H⟩ := H
 (try dsimp only at H)
 have A2 := Aside0.mk A20
 clear A20
 by_cases c3 : t307 = true
 ·subst c3
  rw [if_pos rfl] at H
  have H' := Aside0.mk H
  clear H
  go_enter Try.func25, Try.ntmps25
  go_wp2_with (first | ((with_reducible refine gate_callee (f := 23) rfl ?_); refine gl_ 9 Try.func23 #[.pointer (some ⟨g, 0, none⟩), .int .i64 20] ?_; (with_reducible refine (spec_l1Cur_one.calls g s0_0 s0_1 s0_2 20 true t308 t309 w0 _ ?_ ?_ A2.out).mono ?_); exact Z4 HI0.out; exact Z9; rintro e w4 ⟨rfl, hi, hb, hk⟩; refine ⟨_, rfl, ?_⟩; refine k3_ (KeepBut.trans (Z6) hk (.inl rfl)) (hb) (hi) ?_; clear HK HB HI0; intro HK HB HI0; (try clear hb hk hi)))
  (try simp only [Act.put, List.setIfInBounds_toArray, List.set_cons_zero, List.set_cons_succ])
  go_loopg [3] k (fun kq v3 w' => ∃ (x3_1 : List (S64)), Aside0 (spec_l1Cur_madeSheet.l0 kq x3_1 s0_0 t308 t309 = some (r1, r2, r3)) ∧ Aside0 (kq ≤ k) ∧ Aside0 (Kd.R k64 64 w' w.heap.size (fun _ => True) v3 x3_1) ∧ Aside0 (IsS49 w0 w' g s0_0 t308 t309) ∧ Aside0 (KeepBut w w' g none) ∧ Aside0 (Below w0.heap.size w0 w'))
  case atStart => exact ⟨(([] : List (S64))), H', ⟨Nat.le_refl _⟩, ⟨Z21⟩, ⟨Z4 HI0.out⟩, ⟨Z6⟩, ⟨Z9⟩⟩
  case round =>
   clear H'
   (try clear c2); (try clear p2); (try clear c3)
   obtain ⟨x3_1, HA, HK1, HO_3, HI0, HK, HB⟩ := hrel
   cases gk with
   | zero => exact absurd HA.out (by simp [spec_l1Cur_madeSheet.l0])
   | succ k1 =>
    have H := HA.out
    clear HA
    simp only [spec_l1Cur_madeSheet.l0] at H
    by_cases c5 : (x3_1.length : Int) < 20
    ·rw [if_pos c5] at H
     have c5b0 : decide ((x3_1.length : Int) < 20) = true := decide_eq_true c5
     have c5b1 : decide (x3_1.length < 20) = true := decide_eq_true (by omega)
     clear c5
     by_cases c6 : x3_1.length < 5864062014805
     ·rw [if_pos c6] at H
      have LMc6 := Aside0.mk c6
      clear c6
      obtain ⟨y310, hy310⟩ : ∃ y_ : List (S64), y_ = (x3_1 ++ [(⟨(x3_1.length : Int), 0, 40⟩ : S64)]) := ⟨_, rfl⟩
      replace H : (spec_l1Cur_madeSheet.l0 k1 y310 s0_0 t308 t309) = some (r1, r2, r3) := by first | (rw [hy310]; with_reducible exact H) | (have H2_ := (Option.bind_some _ _).symm.trans H; rw [hy310]; with_reducible exact H2_) | (have H2_ := (Option.bind_some _ _).symm.trans H; with_reducible exact H2_) | with_reducible exact H | (rw [hy310]; exact H) | exact H
      have Ny310 := Aside0.mk hy310
      clear hy310
      have H' := Aside0.mk H
      clear H
      obtain ⟨Ao7, co7, eo7⟩ := Kd.R_slice HO_3.out
      subst eo7
      go_wp2_with (first | ((with_reducible refine gate_builtin (b := .append) (xs := #[.tmp 13, .tmp 17]) rfl ?_); at_builtin; refine Kd.R_append k64 w.heap.size rfl (.tmp 13) (.tmp 17) 23 64 (.agg #[(.int .i64 0), (.int .i64 0), (.int .i64 0)]) 24 rfl Try.underlying23 info64 rfl (by decide) (by omega) (.slice Ao7 x3_1.length co7) x3_1 (⟨(x3_1.length : Int), 0, 40⟩ : S64) [.int .i64 (x3_1.length : Int), .int .i64 0, .int .i64 40] (fun _ => True) (fun _ => False) rfl rfl ?aP (fun _ hk => hk.elim) ?aF ?aO (Below.refl _ _) ?aS ?aL ?_; (case aP => exact k64_mkM _ _ _ (⟨(x3_1.length : Int), 0, 40⟩ : S64)); (case aF => exact (fun _ _ => trivial)); (case aO => exact Z1 HO_3.out); (case aS => exact (keep_size (w := w) (g := g) (row := none) (Z6))); (case aL => have := LMc6.out; omega); intro v311 w8 ho hb hg hat; rw [← Ny310.out] at ho; refine k4_ (IsS49.grown (Z4 HI0.out) hg (IsS49.own_ne HI0.out HO_3.out (by decide))) (below_weaken (Z9) HL.out hb) (KeepBut.trans (Z6) (KeepBut.of_grown hg g) (Kd.R_base2 HO_3.out)) (ho) ?_; clear HI0 HB HK HO_3; intro HI0 HB HK HO312; clear ho hb hg hat))
      go_roundg k1
      case measure => have := HK1.out; omega
      case rel => exact ⟨(y310), H', ⟨Z187⟩, ⟨Z1 HO312.out⟩, ⟨Z4 HI0.out⟩, ⟨Z6⟩, ⟨Z9⟩⟩
     rw [if_neg c6] at H
     exact absurd H (by simp)
    rw [if_neg c5] at H
    have c5b0 : decide ((x3_1.length : Int) < 20) = false := decide_eq_false c5
    have c5b1 : decide (x3_1.length < 20) = false := decide_eq_false (by omega)
    clear c5
    by_cases c9 : 19 < (x3_1.length : Int)
    ·rw [if_pos c9] at H
     have c9b0 : decide (19 < (x3_1.length : Int)) = true := decide_eq_true c9
     have c9b1 : decide (19 < x3_1.length) = true := decide_eq_true (by omega)
     clear c9
     replace H := Option.bind_eq_some_iff.mp H
     obtain ⟨⟨t314, t315, t316⟩, A100, H⟩ := H
     (try dsimp only at H)
     have A10 := Aside0.mk A100
     clear A100
     obtain ⟨y317, hy317⟩ : ∃ y_ : List (S64), y_ = (x3_1.set (19 : Int).toNat (⟨(rd_T64 x3_1 19).f0, (rd_T64 x3_1 19).f1, wrap64 (((rd_T64 x3_1 19).f2) + t314)⟩ : S64)) := ⟨_, rfl⟩
     replace H : (some (y317, t315, t316)) = some (r1, r2, r3) := by first | (rw [hy317]; with_reducible exact H) | (have H2_ := (Option.bind_some _ _).symm.trans H; rw [hy317]; with_reducible exact H2_) | (have H2_ := (Option.bind_some _ _).symm.trans H; with_reducible exact H2_) | with_reducible exact H | (rw [hy317]; exact H) | exact H
     have Ny317 := Aside0.mk hy317
     clear hy317
     simp only [Option.some.injEq, Prod.mk.injEq] at H
     obtain ⟨rfl, rfl, rfl⟩ := H
     obtain ⟨Ao12, co12, eo12⟩ := Kd.R_slice HO_3.out
     subst eo12
     try go_wp2
     refine k4_ (Kd.R_drew HO_3.out) (IsS49.drew HI0.out) (keep_drew HK.out) (below_drew1 HB.out) ?_
     clear HO_3 HI0 HK HB
     intro HO_3 HI0 HK HB
     have p313 : 0 ≤ (19 : Int) := (by omega)
     have q313 : 19 < (x3_1.length : Int) := of_decide_eq_true (Z18)
     obtain ⟨ad313, e313, hx313_0, hx313_1, hx313_2⟩ := at_T64 (Kd.R_reads' HO_3.out).2.2 19 p313 q313
     cases e313
     (try simp only [show (19 : Int).toNat = 19 from rfl, Nat.reduceMul, Nat.reduceEqDiff, Go.Addr.add, ↓reduceIte] at hx313_0)
     (try simp only [show (19 : Int).toNat = 19 from rfl, Nat.reduceMul, Nat.reduceEqDiff, Go.Addr.add, ↓reduceIte] at hx313_1)
     (try simp only [show (19 : Int).toNat = 19 from rfl, Nat.reduceMul, Nat.reduceEqDiff, Go.Addr.add, ↓reduceIte] at hx313_2)
     have qi313 : (19 < x3_1.length) = True := eq_true (by omega)
     (try rw [show ((19 : Int)).toNat = 19 from rfl] at hx313_0)
     (try rw [show 19 * 3 = 57 from rfl] at hx313_0)
     (try rw [show ((19 : Int)).toNat = 19 from rfl] at hx313_1)
     (try rw [show 19 * 3 = 57 from rfl] at hx313_1)
     (try rw [show ((19 : Int)).toNat = 19 from rfl] at hx313_2)
     (try rw [show 19 * 3 = 57 from rfl] at hx313_2)
     replace p313 := eq_true p313
     replace q313 := eq_true q313
     refine start_ (n := 10) (S := fun w' => w'.cell? ⟨ad313.block, ad313.off + 57, none⟩ = some (.int .i64 ((rd_T64 x3_1 19).f0)) ∧ w'.cell? ⟨ad313.block, ad313.off + 57 + 1, none⟩ = some (.int .i64 ((rd_T64 x3_1 19).f1)) ∧ w'.cell? ⟨ad313.block, ad313.off + 57 + 2, none⟩ = some (.int .i64 ((rd_T64 x3_1 19).f2))) (ds := [9]) (M_ 0 10) (by kernel_rfl) rfl rfl ⟨hx313_0, hx313_1, hx313_2⟩ (fun hHeld => ?_); refine with_tabW spec_l1Cur_madeSheet.tab5 spec_l1Cur_madeSheet.bits5 (fun HT_ HW_ => ?_)
     generalize wr.drew = w13 at HO_3 HI0 HK HB hx313_0 hx313_1 hx313_2 hHeld ⊢
     refine pu_ 0 19 (M_ 1 9) ?_
     refine pu_ 1 20 (M_ 2 8) ?_
     refine pu_ 2 21 (M_ 3 7) ?_
     refine pu_ 4 23 (N_ 10 23) ?_
     refine tk3_ 3 22 (M_ 5 5) hHeld ?_
     refine one_ (i := 5) (N := some 24) (M_ 6 4) rfl rfl (one_of HT_.out (by kernel_rfl)) (by decide) (fun K hK => ?_)
     refine goes_ Try.func22 (by kernel_rfl) rfl #[.pointer (some ⟨g, 0, none⟩), .int .i64 2] (by rfl) rfl rfl (Z84) ?_
     with_reducible refine (spec_l1Cur_pick.calls g s0_0 t308 t309 2 t314 t315 t316 w0 _ ?side1 ?side2 A10.out).mono ?_
     (case side1 => exact Z4 HI0.out)
     (case side2 => exact Z9)
     rintro e w14 ⟨rfl, hi, hb, hk⟩
     have HS0_ := keep_cell hk (hHeld.1) (Kd.own_blk (ad := ad313) (IsS49.own_ne HI0.out HO_3.out (by decide)))
     have HS1_ := keep_cell hk (hHeld.2.1) (Kd.own_blk (ad := ad313) (IsS49.own_ne HI0.out HO_3.out (by decide)))
     have HS2_ := keep_cell hk (hHeld.2.2) (Kd.own_blk (ad := ad313) (IsS49.own_ne HI0.out HO_3.out (by decide)))
     refine ⟨_, rfl, ?_⟩
     have n0_ := Aside0.mk (Kd.R_mono (Kd.R_keep (IsS49.apart (show IsS49 w0 _ g s0_0 t308 t309 from Z4 HI0.out) (Z1 HO_3.out) (by decide)) hk (fun _ h => h.2)) (fun _ h => h.1))
     have n1_ := Aside0.mk (KeepBut.trans (Z6) hk (.inl rfl))
     have n2_ := Aside0.mk (hb)
     have n3_ := Aside0.mk (hi)
     clear HO_3
     clear HK
     clear HB
     clear HI0
     have HO_3 := n0_
     have HK := n1_
     have HB := n2_
     have HI0 := n3_
     clear n0_ n1_ n2_ n3_
     (try clear hb)
     (try clear hb2)
     (try clear hk)
     (try clear hi)
     have p11 : 0 ≤ (19 : Int) := (by omega)
     have q11 : (19 : Int) < ((x3_1.length : Int) : Int) := of_decide_eq_true (Z18)
     have qi11 : (19 < x3_1.length) = True := eq_true (by omega)
     obtain ⟨go11, co11, eo11, gb11, gl11, cl11, HG11⟩ := Kd.R_form HO_3.out (by omega)
     (first | cases eo11 | (injection eo11 with ea_ en_ ec_; (first | subst ea_ | (injection ea_ with ea_; subst ea_)); subst ec_; clear en_))
     have GB11 := Aside0.mk gb11
     have GG11 := Aside0.mk HG11
     clear gb11 gl11 HG11
     (first | simp only [add_plain] at hx313_0 | skip)
     (first | simp only [add_plain] at hx313_1 | skip)
     (first | simp only [add_plain] at hx313_2 | skip)
     obtain ⟨ce11, hcl11, hM11, hcc11, hfr11⟩ := Kd.R_elem HO_3.out z64 (19 : Int) p11 q11
     obtain rfl := k64_openM hM11
     have hx11_0 : World.cell? _ ⟨go11, (19 : Int).toNat * 3, none⟩ = some (.int .i64 ((rd_T64 x3_1 19).f0)) := hcc11 0 _ rfl
     have hx11_1 : World.cell? _ ⟨go11, (19 : Int).toNat * 3 + 1, none⟩ = some (.int .i64 ((rd_T64 x3_1 19).f1)) := hcc11 1 _ rfl
     have hx11_2 : World.cell? _ ⟨go11, (19 : Int).toNat * 3 + 2, none⟩ = some (.int .i64 ((rd_T64 x3_1 19).f2)) := hcc11 2 _ rfl
     have hf11_0 : World.frozen? _ ⟨go11, (19 : Int).toNat * 3, none⟩ = false := hfr11 0
     have hf11_1 : World.frozen? _ ⟨go11, (19 : Int).toNat * 3 + 1, none⟩ = false := hfr11 1
     have hf11_2 : World.frozen? _ ⟨go11, (19 : Int).toNat * 3 + 2, none⟩ = false := hfr11 2
     clear hcl11 hcc11 hfr11 hM11
     (try rw [show ((19 : Int)).toNat = 19 from rfl] at hx11_0)
     (try simp only [Nat.reduceMul, Nat.zero_mul, Nat.zero_add, Nat.reduceAdd] at hx11_0)
     (try rw [show ((19 : Int)).toNat = 19 from rfl] at hf11_0)
     (try simp only [Nat.reduceMul, Nat.zero_mul, Nat.zero_add, Nat.reduceAdd] at hf11_0)
     (try rw [show ((19 : Int)).toNat = 19 from rfl] at hx11_1)
     (try simp only [Nat.reduceMul, Nat.zero_mul, Nat.zero_add, Nat.reduceAdd] at hx11_1)
     (try rw [show ((19 : Int)).toNat = 19 from rfl] at hf11_1)
     (try simp only [Nat.reduceMul, Nat.zero_mul, Nat.zero_add, Nat.reduceAdd] at hf11_1)
     (try rw [show ((19 : Int)).toNat = 19 from rfl] at hx11_2)
     (try simp only [Nat.reduceMul, Nat.zero_mul, Nat.zero_add, Nat.reduceAdd] at hx11_2)
     (try rw [show ((19 : Int)).toNat = 19 from rfl] at hf11_2)
     (try simp only [Nat.reduceMul, Nat.zero_mul, Nat.zero_add, Nat.reduceAdd] at hf11_2)
     replace p11 := eq_true p11
     replace q11 := eq_true q11
     have HN0_go11 := Aside0.mk (show g ≠ go11 from by have h_ := IsS49.own_ne HI0.out HO_3.out (by decide); intro e_; exact h_ (by rw [e_]; rfl))
     obtain ⟨ce15, hcl15, hM15, hcc15, hfr15⟩ := Kd.R_elem HO_3.out z64 (19 : Int) (by omega) (Z186)
     obtain rfl := k64_openM hM15
     have HP15 := (Kd.R_seg HO_3.out (19 : Int) (by omega) (Z186) (seg := [.int .i64 (wrap64 (((rd_T64 x3_1 19).f2) + t314))]) (j := 2) hcl15 hcc15 (show 3 ≤ 3 from by decide) (x' := (⟨(rd_T64 x3_1 19).f0, (rd_T64 x3_1 19).f1, wrap64 (((rd_T64 x3_1 19).f2) + t314)⟩ : S64)) (k64_mkM _ _ _ (⟨(rd_T64 x3_1 19).f0, (rd_T64 x3_1 19).f1, wrap64 (((rd_T64 x3_1 19).f2) + t314)⟩ : S64) ) (fun _ hk => hk)).1
     rw [← Ny317.out] at HP15
     have HQ15 := Aside0.mk HP15
     clear hcl15 hcc15 hfr15 hM15 HP15
     refine hK.out _ _ ⟨HS0_, HS1_, HS2_⟩ (fun hHeld => ?_)
     clear hK K
     refine norm_ (a' := ?_) ?_ ?_
     rotate_left
     ·show Act.put _ (some 24) _ = _
      simp only [Act.put, List.setIfInBounds_toArray, List.set_cons_zero, List.set_cons_succ, i64_w, i32_w]
      rfl
     refine pu_ 6 25 (M_ 7 3) ?_
     refine pu_ 7 26 (M_ 8 2) ?_
     refine pu_ 8 27 (M_ 9 1) ?_
     refine last_ (i := 9) (N := none) (M_ 10 0) rfl rfl (one_of HT_.out (by kernel_rfl)) (by decide) (fun K hK => ?_)
     refine skip_ (w1 := ?_) (by rfl) rfl ?_ ?_
     rotate_left
     ·go_simp
      rfl
     refine hK.out _ _ ?_
     clear hK K
     refine done_ (done_of HT_.out (by kernel_rfl)) ?_
     try go_wp2
     go_ret
     exact ⟨_, Z11, Z1 HQ15.out, by repeat (first | (with_reducible first | exact HI0.out | apply IsS49.alloc | apply IsS49.drewN | apply IsS49.drew | apply IsS49.set_1 | apply IsS49.set_2 | refine IsS49.far ?_ HN0_go11.out _) | exact HI0.out), by repeat (first | (with_reducible first | exact HB.out | apply below_alloc | apply pw_below_drewN | apply below_drew1 | refine below_set ?_ (Nat.le_trans HL.out GB11.out) | refine below_set ?_ (IsS49.ge HI0.out)) | exact HB.out), by repeat (first | (with_reducible first | exact HK.out | apply KeepBut.set_ | apply keep_drewN | apply keep_drew | apply keep_alloc | refine keep_far ?_ GB11.out _) | exact HK.out)⟩
    rw [if_neg c9] at H
    exact absurd H (by simp)
 replace c3 := Bool.eq_false_iff.mpr c3
 subst c3
 rw [if_neg (show ¬ (false = true) by decide)] at H
 replace H := Option.bind_eq_some_iff.mp H
 obtain ⟨⟨t318, t321, t322⟩, A160, H⟩ := H
 (try dsimp only at H)
 have A16 := Aside0.mk A160
 clear A160
 have H' := Aside0.mk H
 clear H
 go_enter Try.func25, Try.ntmps25
 go_wp2_with (first | ((with_reducible refine gate_callee (f := 23) rfl ?_); refine gl_ 9 Try.func23 #[.pointer (some ⟨g, 0, none⟩), .int .i64 20] ?_; (with_reducible refine (spec_l1Cur_one.calls g s0_0 s0_1 s0_2 20 false t308 t309 w0 _ ?_ ?_ A2.out).mono ?_); exact Z4 HI0.out; exact Z9; rintro e w17 ⟨rfl, hi, hb, hk⟩; refine ⟨_, rfl, ?_⟩; refine k3_ (KeepBut.trans (Z6) hk (.inl rfl)) (hb) (hi) ?_; clear HK HB HI0; intro HK HB HI0; (try clear hb hk hi)) | ((with_reducible refine gate_callee (f := 43) rfl ?_); refine gl_ 30 Try.func43 #[.pointer (some ⟨g, 0, none⟩)] ?_; (with_reducible refine (spec_l1Cur_sheet.calls k g s0_0 t308 t309 t318 t321 t322 w0 _ ?_ ?_ A16.out).mono ?_); exact Z4 HI0.out; exact Z9; rintro e w18 ⟨v319, rfl, ho0, hi, hb, hk⟩; refine ⟨_, rfl, ?_⟩; refine k4_ (Kd.R_lower ho0 (keep_size (w := w) (g := g) (row := none) (Z6))) (KeepBut.trans (Z6) hk (.inl rfl)) (hb) (hi) ?_; clear HK HB HI0; intro HO320 HK HB HI0; (try clear hb hk hi ho0); obtain ⟨Ao19, co19, eo19⟩ := Kd.R_slice HO320.out; subst eo19))
 (try simp only [Act.put, List.setIfInBounds_toArray, List.set_cons_zero, List.set_cons_succ])
 go_loopg [3, 32] k (fun kq v3 v32 w' => ∃ (x3_1 : List (S64)) (x32_1 : Int) (x1001_1 : Int) (x1002_1 : Int), v32 = .int .i64 x32_1 ∧ Aside0 (spec_l1Cur_madeSheet.l1 kq x3_1 t318 (t318.length : Int) x32_1 s0_0 x1001_1 x1002_1 = some (r1, r2, r3)) ∧ Aside0 (kq ≤ k) ∧ Aside0 (Kd.R k64 64 w' w.heap.size (fun k_ => some k_ ≠ ((.slice Ao19 t318.length co19) : Value).ownBlock) v3 x3_1) ∧ Aside0 (Kd.R k64 64 w' w.heap.size (fun k_ => some k_ ≠ (v3 : Value).ownBlock) (.slice Ao19 t318.length co19) t318) ∧ Aside0 (IsS49 w0 w' g s0_0 x1001_1 x1002_1) ∧ Aside0 (KeepBut w w' g none) ∧ Aside0 (Below w0.heap.size w0 w'))
 case atStart => exact ⟨(([] : List (S64))), (0), (t321), (t322), (Z17), H', ⟨Nat.le_refl _⟩, ⟨Z21⟩, ⟨by (with_reducible repeat (first | apply Kd.R_alloc | apply Kd.R_drewN | apply Kd.R_drew)); exact Kd.R_mono HO320.out (fun _ hk => (by simp [Value.ownBlock]))⟩, ⟨Z4 HI0.out⟩, ⟨Z6⟩, ⟨Z9⟩⟩
 case round =>
  clear H'
  (try clear c1); (try clear p1); (try clear q1); (try clear hx1); (try clear qi1); (try clear hf1); (try clear c2); (try clear p2); (try clear c3); (try clear p3); (try clear q3); (try clear hx3); (try clear qi3); (try clear c4); (try clear c5); (try clear c5b0); (try clear c5b1); (try clear c6); (try clear p6); (try clear c9); (try clear c9b0); (try clear c9b1); (try clear c11); (try clear p11); (try clear q11); (try clear hx11); (try clear qi11); (try clear hf11); (try clear c15); (try clear hx11_0); (try clear hx11_1); (try clear hx11_2); (try clear hx313_0); (try clear hx313_1); (try clear hx313_2); (try clear p313); (try clear q313)
  obtain ⟨x3_1, x32_1, x1001_1, x1002_1, rfl, HA, HK1, HO_3, HO_30, HI0, HK, HB⟩ := hrel
  cases gk with
  | zero => exact absurd HA.out (by simp [spec_l1Cur_madeSheet.l1])
  | succ k1 =>
   have H := HA.out
   clear HA
   simp only [spec_l1Cur_madeSheet.l1] at H
   by_cases c20 : x32_1 < (t318.length : Int)
   ·rw [if_pos c20] at H
    have c20b0 : decide (x32_1 < (t318.length : Int)) = true := decide_eq_true c20
    clear c20
    by_cases c21 : 0 ≤ x32_1
    ·rw [if_pos c21] at H
     have c21b0 : decide (0 ≤ x32_1) = true := decide_eq_true c21
     clear c21
     by_cases c22 : x32_1 < (t318.length : Int)
     ·rw [if_pos c22] at H
      have c22b0 : decide (x32_1 < (t318.length : Int)) = true := decide_eq_true c22
      clear c22
      have HC23 := Aside0.mk H
      clear H
      have p323 : 0 ≤ (x32_1 : Int) := of_decide_eq_true (Z18)
      have q323 : x32_1 < (t318.length : Int) := of_decide_eq_true (Z18)
      obtain ⟨ad323, e323, hx323_0, hx323_1, hx323_2⟩ := at_T64 (Kd.R_reads' HO_30.out).2.2 x32_1 p323 q323
      cases e323
      replace p323 := eq_true p323
      replace q323 := eq_true q323
      go_upto_region 10 with (first | ((with_reducible refine gate_dst (N := 5) rfl ?_); refine bv_ 5 64 #[.int .i64 0, .int .i64 0, .int .i64 0] ?_; intro gb324 hg w24 hbox hb; refine k10_ (Kd.R_below (Kd.R_elderB (Z1 HO_3.out) gb324 (Nat.le_of_eq hg.symm)) hb) (Kd.R_below (Kd.R_elderB (Z1 HO_30.out) gb324 (Nat.le_of_eq hg.symm)) hb) (IsS49.below (Z4 HI0.out) hb) (KeepBut.trans (Z6) (KeepBut.of_below hb g none) (.inl rfl)) (below_step (Z9) hb) (hbox) ((Z123 : w.heap.size ≤ gb324)) ((Nat.le_trans HW0.out (Z123 : w.heap.size ≤ gb324) : w0.heap.size ≤ gb324)) ((by rw [hg]; exact Nat.ne_of_lt (IsS49.lt (show IsS49 w0 _ g s0_0 x1001_1 x1002_1 from Z4 HI0.out)) : g ≠ gb324)) ((by rw [hg]; exact Nat.ne_of_gt (IsS49.lt (show IsS49 w0 _ g s0_0 x1001_1 x1002_1 from Z4 HI0.out)) : gb324 ≠ g)) ?_; clear HO_3 HO_30 HI0 HK HB; intro HO_3 HO_30 HI0 HK HB BK324 GW324 GE324 NB0_324 NB324_0; clear hb hbox hg; have hnb25 := NB324_0.out; have hnc25 := NB0_324.out; obtain ⟨hcz26_0, hcz26_1, hcz26_2, hfz26_0, hfz26_1, hfz26_2⟩ := bx3_ (w := w24) BK324.out))
      (try simp only [Act.put, List.setIfInBounds_toArray, List.set_cons_zero, List.set_cons_succ])
      go_cut [46] (fun v46 wc => ∃ (kq : Nat) (x46_22 : Bool) (x1001_22 : Int) (x1002_22 : Int), v46 = .bool x46_22 ∧ Aside0 (spec_l1Cur_madeSheet.j2 kq x3_1 t318 (t318.length : Int) x32_1 x46_22 s0_0 x1001_22 x1002_22 ((rd_T64 t318 x32_1).f0) ((rd_T64 t318 x32_1).f1) ((rd_T64 t318 x32_1).f2) = some (r1, r2, r3)) ∧ Aside0 (kq ≤ k1) ∧ Aside0 (Kd.R k64 64 wc w.heap.size (fun k_ => some k_ ≠ ((.slice (some ad323) t318.length co19) : Value).ownBlock ∧ k_ ≠ gb324) u3 x3_1) ∧ Aside0 (Kd.R k64 64 wc w.heap.size (fun k_ => some k_ ≠ (u3 : Value).ownBlock ∧ k_ ≠ gb324) (.slice (some ad323) t318.length co19) t318) ∧ Aside0 (wc.heap[gb324]? = some (.cells #[.int .i64 ((rd_T64 t318 x32_1).f0), .int .i64 ((rd_T64 t318 x32_1).f1), .int .i64 ((rd_T64 t318 x32_1).f2)] 64 (0, 0))) ∧ Aside0 (IsS49 w0 wc g s0_0 x1001_22 x1002_22) ∧ Aside0 (KeepBut w wc g none) ∧ Aside0 (Below w0.heap.size w0 wc))
      case first =>
       have H := HC23.out
       clear HC23
       by_cases c27 : (wrap64 (((rd_T64 t318 x32_1).f2) - ((rd_T64 t318 x32_1).f1))) < 4
       ·rw [if_pos c27] at H
        have c27b0 : decide ((wrap64 (((rd_T64 t318 x32_1).f2) - ((rd_T64 t318 x32_1).f1))) < 4) = true := decide_eq_true c27
        clear c27
        (first | rw [c27b0] | (simp only [i64_w, i32_w]; rw [c27b0]) | skip)
        replace H := Option.bind_eq_some_iff.mp H
        obtain ⟨⟨t325, t326, t327⟩, A280, H⟩ := H
        (try dsimp only at H)
        have A28 := Aside0.mk A280
        clear A280
        have H' := Aside0.mk H
        clear H
        have hnb29 := NB324_0.out
        have hnc29 := NB0_324.out
        obtain ⟨hcz30_0, hcz30_1, hcz30_2, hfz30_0, hfz30_1, hfz30_2⟩ := bx3_ (w := w24) BK324.out
        go_wp2_with (first | (go_at_call 23; (with_reducible refine (spec_l1Cur_one.calls g s0_0 x1001_1 x1002_1 20 t325 t326 t327 w0 _ ?_ ?_ A28.out).mono ?_); exact Z29; exact Z69; rintro e w31 ⟨rfl, hi, hb, hk⟩; refine k6_ (Kd.R_mono (Kd.R_keep (IsS49.apart (show IsS49 w0 _ g s0_0 x1001_1 x1002_1 from Z29) (Z141 HO_3.out) (by decide)) hk (fun _ h => h.2)) (fun _ h => h.1)) (Kd.R_mono (Kd.R_keep (IsS49.apart (show IsS49 w0 _ g s0_0 x1001_1 x1002_1 from Z29) (Z141 HO_30.out) (by decide)) hk (fun _ h => h.2)) (fun _ h => h.1)) (KeepBut.blk hk (g' := gb324) (o := .cells #[.int .i64 ((rd_T64 t318 x32_1).f0), .int .i64 ((rd_T64 t318 x32_1).f1), .int .i64 ((rd_T64 t318 x32_1).f2)] 64 (0, 0)) (Z121) NB324_0.out (by simp)) (KeepBut.trans (Z48) hk (.inl rfl)) (hb) (hi) ?_; clear HO_3 HO_30 BK324 HK HB HI0; intro HO_3 HO_30 BK324 HK HB HI0; (try clear hb hk hi)))
        go_meet
        case rel => exact ⟨_, (!t325), (t326), (t327), (Z17), H', ⟨Z137⟩, ⟨Z1 HO_3.out⟩, ⟨Z1 HO_30.out⟩, ⟨Z2 BK324.out⟩, ⟨Z29⟩, ⟨Z48⟩, ⟨Z69⟩⟩
       rw [if_neg c27] at H
       have c27b0 : decide ((wrap64 (((rd_T64 t318 x32_1).f2) - ((rd_T64 t318 x32_1).f1))) < 4) = false := decide_eq_false c27
       clear c27
       (first | rw [c27b0] | (simp only [i64_w, i32_w]; rw [c27b0]) | skip)
       have H' := Aside0.mk H
       clear H
       have hnb32 := NB324_0.out
       have hnc32 := NB0_324.out
       obtain ⟨hcz33_0, hcz33_1, hcz33_2, hfz33_0, hfz33_1, hfz33_2⟩ := bx3_ (w := w24) BK324.out
       go_wp2
       go_meet
       case rel => exact ⟨_, (false), (x1001_1), (x1002_1), (Z17), H', ⟨Z137⟩, ⟨Z139 HO_3.out⟩, ⟨Z139 HO_30.out⟩, ⟨Z121⟩, ⟨Z29⟩, ⟨Z48⟩, ⟨Z69⟩⟩
      case rest =>
       clear HC23
       (try clear c20); (try clear c20b0); (try clear c21); (try clear c21b0); (try clear c22); (try clear c22b0); (try clear c23); (try clear c25); (try clear c27); (try clear c27b0); (try clear c29); (try clear p31); (try clear q31); (try clear hx31); (try clear qi31); (try clear c32); (try clear p32); (try clear q32); (try clear hx32); (try clear hcz26_0); (try clear hcz26_1); (try clear hcz26_2); (try clear hcz30_0); (try clear hcz30_1); (try clear hcz30_2); (try clear hcz33_0); (try clear hcz33_1); (try clear hcz33_2); (try clear hfz26_0); (try clear hfz26_1); (try clear hfz26_2); (try clear hfz30_0); (try clear hfz30_1); (try clear hfz30_2); (try clear hfz33_0); (try clear hfz33_1); (try clear hfz33_2); (try clear hx323_0); (try clear hx323_1); (try clear hx323_2); (try clear p323); (try clear q323)
       obtain ⟨kq, x46_22, x1001_22, x1002_22, rfl, HA, HJ22, HO_3, HO_30, BK324, HI0, HK, HB⟩ := hcut
       cases kq with
       | zero => exact absurd HA.out (by simp [spec_l1Cur_madeSheet.j2])
       | succ kj22 =>
        have H := HA.out
        clear HA
        simp only [spec_l1Cur_madeSheet.j2] at H
        by_cases c34 : x46_22 = true
        ·subst c34
         rw [if_pos rfl] at H
         replace H := Option.bind_eq_some_iff.mp H
         obtain ⟨⟨t328, t329, t330⟩, A350, H⟩ := H
         (try dsimp only at H)
         have A35 := Aside0.mk A350
         clear A350
         replace H := Option.bind_eq_some_iff.mp H
         obtain ⟨⟨t331, t334⟩, A360, H⟩ := H
         (try dsimp only at H)
         have A36 := Aside0.mk A360
         clear A360
         by_cases c37 : t334 = true
         ·subst c37
          rw [if_pos rfl] at H
          have H' := Aside0.mk H
          clear H
          try go_wp2
          refine k6_ (Kd.R_drew HO_3.out) (Kd.R_drew HO_30.out) (blk_drew BK324.out) (IsS49.drew HI0.out) (keep_drew HK.out) (below_drew1 HB.out) ?_
          clear HO_3 HO_30 BK324 HI0 HK HB
          intro HO_3 HO_30 BK324 HI0 HK HB
          refine start_ (n := 8) (S := fun w' => w'.cell? ⟨gb324, 0, none⟩ = some (.int .i64 ((rd_T64 t318 x32_1).f0)) ∧ w'.cell? ⟨gb324, 1, none⟩ = some (.int .i64 ((rd_T64 t318 x32_1).f1)) ∧ w'.cell? ⟨gb324, 2, none⟩ = some (.int .i64 ((rd_T64 t318 x32_1).f2))) (ds := [7]) (M_ 0 8) (by kernel_rfl) rfl rfl ⟨(blk_cell BK324.out 0).trans rfl, (blk_cell BK324.out 1).trans rfl, (blk_cell BK324.out 2).trans rfl⟩ (fun hHeld => ?_); refine with_tabW spec_l1Cur_madeSheet.tab11 spec_l1Cur_madeSheet.bits11 (fun HT_ HW_ => ?_)
          generalize wc.drew = w38 at HO_3 HO_30 BK324 HI0 HK HB hHeld ⊢
          refine pu_ 0 47 (M_ 1 7) ?_
          refine pu_ 3 50 (N_ 8 9) ?_
          refine tk3_ 1 48 (N_ 8 11) hHeld ?_
          refine pu_ 2 49 (M_ 4 4) ?_
          refine one_ (i := 4) (N := some 51) (M_ 5 3) rfl rfl (one_of HT_.out (by kernel_rfl)) (by decide) (fun K hK => ?_)
          refine goes_ Try.func22 (by kernel_rfl) rfl #[.pointer (some ⟨g, 0, none⟩), .int .i64 5] (by rfl) rfl rfl (Z84) ?_
          with_reducible refine (spec_l1Cur_pick.calls g s0_0 x1001_22 x1002_22 5 t328 t329 t330 w0 _ ?side1 ?side2 A35.out).mono ?_
          (case side1 => exact Z29)
          (case side2 => exact Z69)
          rintro e w39 ⟨rfl, hi, hb, hk⟩
          refine ⟨_, rfl, ?_⟩
          have n0_ := Aside0.mk (Kd.R_mono (Kd.R_keep (IsS49.apart (show IsS49 w0 _ g s0_0 x1001_22 x1002_22 from Z29) (Z1 HO_3.out) (by decide)) hk (fun _ h => h.2)) (fun _ h => h.1))
          have n1_ := Aside0.mk (Kd.R_mono (Kd.R_keep (IsS49.apart (show IsS49 w0 _ g s0_0 x1001_22 x1002_22 from Z29) (Z1 HO_30.out) (by decide)) hk (fun _ h => h.2)) (fun _ h => h.1))
          have n2_ := Aside0.mk (KeepBut.blk hk (g' := gb324) (o := .cells #[.int .i64 ((rd_T64 t318 x32_1).f0), .int .i64 ((rd_T64 t318 x32_1).f1), .int .i64 ((rd_T64 t318 x32_1).f2)] 64 (0, 0)) (Z2 BK324.out) NB324_0.out (by simp))
          have n3_ := Aside0.mk (KeepBut.trans (Z48) hk (.inl rfl))
          have n4_ := Aside0.mk (hb)
          have n5_ := Aside0.mk (hi)
          clear HO_3
          clear HO_30
          clear BK324
          clear HK
          clear HB
          clear HI0
          have HO_3 := n0_
          have HO_30 := n1_
          have BK324 := n2_
          have HK := n3_
          have HB := n4_
          have HI0 := n5_
          clear n0_ n1_ n2_ n3_ n4_ n5_
          (try clear hb)
          (try clear hb2)
          (try clear hk)
          (try clear hi)
          refine hK.out _ _ ⟨(blk_cell BK324.out 0).trans rfl, (blk_cell BK324.out 1).trans rfl, (blk_cell BK324.out 2).trans rfl⟩ (fun hHeld => ?_)
          clear hK K
          refine norm_ (a' := ?_) ?_ ?_
          rotate_left
          ·show Act.put _ (some 51) _ = _
           simp only [Act.put, List.setIfInBounds_toArray, List.set_cons_zero, List.set_cons_succ, i64_w, i32_w]
           rfl
          refine pu_ 5 52 (M_ 6 2) ?_
          refine pu_ 6 53 (M_ 7 1) ?_
          refine last_ (i := 7) (N := none) (M_ 8 0) rfl rfl (one_of HT_.out (by kernel_rfl)) (by decide) (fun K hK => ?_)
          have hs40 : w39.cell? ⟨gb324, 2, none⟩ = some (.int .i64 ((rd_T64 t318 x32_1).f2)) := (blk_cell BK324.out 2).trans rfl
          have hfs40 := blk_frozen BK324.out 2
          refine skip_ (w1 := ?_) (by rfl) rfl ?_ ?_
          rotate_left
          ·go_simp
           rfl
          refine hK.out _ _ ?_
          clear hK K
          refine done_ (done_of HT_.out (by kernel_rfl)) ?_
          have hnb41 := NB324_0.out
          have hnc41 := NB0_324.out
          obtain ⟨hcz42_0, hcz42_1, hcz42_2, hfz42_0, hfz42_1, hfz42_2⟩ := bx3_ (w := w39) BK324.out
          obtain ⟨Ao43, co43, eo43⟩ := Kd.R_slice HO_3.out
          subst eo43
          try go_wp2_with (first | ((with_reducible refine gate_callee (f := 44) rfl ?_); refine gl_ 57 Try.func44 #[.slice Ao43 x3_1.length co43, .agg #[.int .i64 ((rd_T64 t318 x32_1).f0), .int .i64 ((rd_T64 t318 x32_1).f1), .int .i64 (wrap64 ((wrap64 (((rd_T64 t318 x32_1).f1) + 4)) + t328))]] ?_; (with_reducible refine (spec_shWith.calls kj22 _ _ x3_1 ((rd_T64 t318 x32_1).f0) ((rd_T64 t318 x32_1).f1) (wrap64 ((wrap64 (((rd_T64 t318 x32_1).f1) + 4)) + t328)) t331 true _ ?_ ?_ A36.out).mono ?_); exact (by refine (Kd.R_reads' (e := 64) (base := w.heap.size) (ok := fun k_ => (some k_ ≠ (.slice (some ad323) t318.length co19 : Value).ownBlock ∧ k_ ≠ gb324)) (n := x3_1.length) (c := co43) ?_).2.2; exact Z51 HO_3.out); exact (Kd.R_reads' HO_3.out).2.1; rintro e w44 ⟨v332, rfl, ho0, hb⟩; refine ⟨_, rfl, ?_⟩; refine k7_ (Kd.R_elder' (Z51 HO_3.out) (Kd.R_base ho0) hb) (Kd.R_elder' (Z51 HO_30.out) (Kd.R_base ho0) hb) (Kd.R_lower (Kd.R_newB (Kd.R_new' (Kd.R_new' ho0 (Kd.R_lt (Z51 HO_3.out))) (Kd.R_lt (Z51 HO_30.out))) (g := gb324) (o := .cells #[.int .i64 ((rd_T64 t318 x32_1).f0), .int .i64 ((rd_T64 t318 x32_1).f1), .int .i64 (wrap64 ((wrap64 (((rd_T64 t318 x32_1).f1) + 4)) + t328))] 64 (0, 0)) (Z106)) (keep_size (w := w) (g := g) (row := none) (Z48))) (blk_below (g := gb324) (o := .cells #[.int .i64 ((rd_T64 t318 x32_1).f0), .int .i64 ((rd_T64 t318 x32_1).f1), .int .i64 (wrap64 ((wrap64 (((rd_T64 t318 x32_1).f1) + 4)) + t328))] 64 (0, 0)) (Z106) hb) (IsS49.below (show IsS49 w0 (w39.setCell ⟨gb324, 2, none⟩ (.int .i64 (wrap64 ((wrap64 (((rd_T64 t318 x32_1).f1) + 4)) + t328)))) g s0_0 t329 t330 from Z29) hb) (KeepBut.trans (Z48) (KeepBut.of_below hb g none) (.inl rfl)) (below_step (Z69) hb) ?_; clear HO_3 HO_30 BK324 HI0 HK HB; intro HO_3 HO_30 HO333 BK324 HI0 HK HB; (try clear hb ho0)))
          go_roundg kj22
          case measure => have := HK1.out; have := HJ22.out; omega
          case rel => exact ⟨(t331), (wrap64 (x32_1 + 1)), (t329), (t330), (Z17), H', ⟨Z220⟩, ⟨by (with_reducible repeat (first | apply Kd.R_alloc | apply Kd.R_drewN | apply Kd.R_drew)); exact Kd.R_mono HO333.out (fun _ hk => hk.1.2)⟩, ⟨Z83 HO_30.out⟩, ⟨Z29⟩, ⟨Z48⟩, ⟨Z69⟩⟩
         replace c37 := Bool.eq_false_iff.mpr c37
         subst c37
         rw [if_neg (show ¬ (false = true) by decide)] at H
         have H' := Aside0.mk H
         clear H
         try go_wp2
         refine k6_ (Kd.R_drew HO_3.out) (Kd.R_drew HO_30.out) (blk_drew BK324.out) (IsS49.drew HI0.out) (keep_drew HK.out) (below_drew1 HB.out) ?_
         clear HO_3 HO_30 BK324 HI0 HK HB
         intro HO_3 HO_30 BK324 HI0 HK HB
         refine start_ (n := 8) (S := fun w' => w'.cell? ⟨gb324, 0, none⟩ = some (.int .i64 ((rd_T64 t318 x32_1).f0)) ∧ w'.cell? ⟨gb324, 1, none⟩ = some (.int .i64 ((rd_T64 t318 x32_1).f1)) ∧ w'.cell? ⟨gb324, 2, none⟩ = some (.int .i64 ((rd_T64 t318 x32_1).f2))) (ds := [7]) (M_ 0 8) (by kernel_rfl) rfl rfl ⟨(blk_cell BK324.out 0).trans rfl, (blk_cell BK324.out 1).trans rfl, (blk_cell BK324.out 2).trans rfl⟩ (fun hHeld => ?_); refine with_tabW spec_l1Cur_madeSheet.tab11 spec_l1Cur_madeSheet.bits11 (fun HT_ HW_ => ?_)
         generalize wc.drew = w45 at HO_3 HO_30 BK324 HI0 HK HB hHeld ⊢
         refine pu_ 0 47 (M_ 1 7) ?_
         refine pu_ 3 50 (N_ 8 9) ?_
         refine tk3_ 1 48 (N_ 8 11) hHeld ?_
         refine pu_ 2 49 (M_ 4 4) ?_
         refine one_ (i := 4) (N := some 51) (M_ 5 3) rfl rfl (one_of HT_.out (by kernel_rfl)) (by decide) (fun K hK => ?_)
         refine goes_ Try.func22 (by kernel_rfl) rfl #[.pointer (some ⟨g, 0, none⟩), .int .i64 5] (by rfl) rfl rfl (Z84) ?_
         with_reducible refine (spec_l1Cur_pick.calls g s0_0 x1001_22 x1002_22 5 t328 t329 t330 w0 _ ?side1 ?side2 A35.out).mono ?_
         (case side1 => exact Z29)
         (case side2 => exact Z69)
         rintro e w46 ⟨rfl, hi, hb, hk⟩
         refine ⟨_, rfl, ?_⟩
         have n0_ := Aside0.mk (Kd.R_mono (Kd.R_keep (IsS49.apart (show IsS49 w0 _ g s0_0 x1001_22 x1002_22 from Z29) (Z1 HO_3.out) (by decide)) hk (fun _ h => h.2)) (fun _ h => h.1))
         have n1_ := Aside0.mk (Kd.R_mono (Kd.R_keep (IsS49.apart (show IsS49 w0 _ g s0_0 x1001_22 x1002_22 from Z29) (Z1 HO_30.out) (by decide)) hk (fun _ h => h.2)) (fun _ h => h.1))
         have n2_ := Aside0.mk (KeepBut.blk hk (g' := gb324) (o := .cells #[.int .i64 ((rd_T64 t318 x32_1).f0), .int .i64 ((rd_T64 t318 x32_1).f1), .int .i64 ((rd_T64 t318 x32_1).f2)] 64 (0, 0)) (Z2 BK324.out) NB324_0.out (by simp))
         have n3_ := Aside0.mk (KeepBut.trans (Z48) hk (.inl rfl))
         have n4_ := Aside0.mk (hb)
         have n5_ := Aside0.mk (hi)
         clear HO_3
         clear HO_30
         clear BK324
         clear HK
         clear HB
         clear HI0
         have HO_3 := n0_
         have HO_30 := n1_
         have BK324 := n2_
         have HK := n3_
         have HB := n4_
         have HI0 := n5_
         clear n0_ n1_ n2_ n3_ n4_ n5_
         (try clear hb)
         (try clear hb2)
         (try clear hk)
         (try clear hi)
         refine hK.out _ _ ⟨(blk_cell BK324.out 0).trans rfl, (blk_cell BK324.out 1).trans rfl, (blk_cell BK324.out 2).trans rfl⟩ (fun hHeld => ?_)
         clear hK K
         refine norm_ (a' := ?_) ?_ ?_
         rotate_left
         ·show Act.put _ (some 51) _ = _
          simp only [Act.put, List.setIfInBounds_toArray, List.set_cons_zero, List.set_cons_succ, i64_w, i32_w]
          rfl
         refine pu_ 5 52 (M_ 6 2) ?_
         refine pu_ 6 53 (M_ 7 1) ?_
         refine last_ (i := 7) (N := none) (M_ 8 0) rfl rfl (one_of HT_.out (by kernel_rfl)) (by decide) (fun K hK => ?_)
         have hs47 : w46.cell? ⟨gb324, 2, none⟩ = some (.int .i64 ((rd_T64 t318 x32_1).f2)) := (blk_cell BK324.out 2).trans rfl
         have hfs47 := blk_frozen BK324.out 2
         refine skip_ (w1 := ?_) (by rfl) rfl ?_ ?_
         rotate_left
         ·go_simp
          rfl
         refine hK.out _ _ ?_
         clear hK K
         refine done_ (done_of HT_.out (by kernel_rfl)) ?_
         have hnb48 := NB324_0.out
         have hnc48 := NB0_324.out
         obtain ⟨hcz49_0, hcz49_1, hcz49_2, hfz49_0, hfz49_1, hfz49_2⟩ := bx3_ (w := w46) BK324.out
         obtain ⟨Ao50, co50, eo50⟩ := Kd.R_slice HO_3.out
         subst eo50
         try go_wp2_with (first | ((with_reducible refine gate_callee (f := 44) rfl ?_); refine gl_ 57 Try.func44 #[.slice Ao50 x3_1.length co50, .agg #[.int .i64 ((rd_T64 t318 x32_1).f0), .int .i64 ((rd_T64 t318 x32_1).f1), .int .i64 (wrap64 ((wrap64 (((rd_T64 t318 x32_1).f1) + 4)) + t328))]] ?_; (with_reducible refine (spec_shWith.calls kj22 _ _ x3_1 ((rd_T64 t318 x32_1).f0) ((rd_T64 t318 x32_1).f1) (wrap64 ((wrap64 (((rd_T64 t318 x32_1).f1) + 4)) + t328)) t331 false _ ?_ ?_ A36.out).mono ?_); exact (by refine (Kd.R_reads' (e := 64) (base := w.heap.size) (ok := fun k_ => (some k_ ≠ (.slice (some ad323) t318.length co19 : Value).ownBlock ∧ k_ ≠ gb324)) (n := x3_1.length) (c := co50) ?_).2.2; exact Z51 HO_3.out); exact (Kd.R_reads' HO_3.out).2.1; rintro e w51 ⟨v332, rfl, ho0, hb⟩; refine ⟨_, rfl, ?_⟩; refine k7_ (Kd.R_elder' (Z51 HO_3.out) (Kd.R_base ho0) hb) (Kd.R_elder' (Z51 HO_30.out) (Kd.R_base ho0) hb) (Kd.R_lower (Kd.R_newB (Kd.R_new' (Kd.R_new' ho0 (Kd.R_lt (Z51 HO_3.out))) (Kd.R_lt (Z51 HO_30.out))) (g := gb324) (o := .cells #[.int .i64 ((rd_T64 t318 x32_1).f0), .int .i64 ((rd_T64 t318 x32_1).f1), .int .i64 (wrap64 ((wrap64 (((rd_T64 t318 x32_1).f1) + 4)) + t328))] 64 (0, 0)) (Z106)) (keep_size (w := w) (g := g) (row := none) (Z48))) (blk_below (g := gb324) (o := .cells #[.int .i64 ((rd_T64 t318 x32_1).f0), .int .i64 ((rd_T64 t318 x32_1).f1), .int .i64 (wrap64 ((wrap64 (((rd_T64 t318 x32_1).f1) + 4)) + t328))] 64 (0, 0)) (Z106) hb) (IsS49.below (show IsS49 w0 (w46.setCell ⟨gb324, 2, none⟩ (.int .i64 (wrap64 ((wrap64 (((rd_T64 t318 x32_1).f1) + 4)) + t328)))) g s0_0 t329 t330 from Z29) hb) (KeepBut.trans (Z48) (KeepBut.of_below hb g none) (.inl rfl)) (below_step (Z69) hb) ?_; clear HO_3 HO_30 BK324 HI0 HK HB; intro HO_3 HO_30 HO333 BK324 HI0 HK HB; (try clear hb ho0)))
         go_roundg kj22
         case measure => have := HK1.out; have := HJ22.out; omega
         case rel => exact ⟨(x3_1), (wrap64 (x32_1 + 1)), (t329), (t330), (Z17), H', ⟨Z220⟩, ⟨Z160 HO_3.out⟩, ⟨Z160 HO_30.out⟩, ⟨Z29⟩, ⟨Z48⟩, ⟨Z69⟩⟩
        replace c34 := Bool.eq_false_iff.mpr c34
        subst c34
        rw [if_neg (show ¬ (false = true) by decide)] at H
        replace H := Option.bind_eq_some_iff.mp H
        obtain ⟨⟨t335, t338⟩, A520, H⟩ := H
        (try dsimp only at H)
        have A52 := Aside0.mk A520
        clear A520
        by_cases c53 : t338 = true
        ·subst c53
         rw [if_pos rfl] at H
         have H' := Aside0.mk H
         clear H
         have hnb54 := NB324_0.out
         have hnc54 := NB0_324.out
         obtain ⟨hcz55_0, hcz55_1, hcz55_2, hfz55_0, hfz55_1, hfz55_2⟩ := bx3_ (w := wc) BK324.out
         obtain ⟨Ao56, co56, eo56⟩ := Kd.R_slice HO_3.out
         subst eo56
         go_wp2_with (first | ((with_reducible refine gate_callee (f := 44) rfl ?_); refine gl_ 57 Try.func44 #[.slice Ao56 x3_1.length co56, .agg #[.int .i64 ((rd_T64 t318 x32_1).f0), .int .i64 ((rd_T64 t318 x32_1).f1), .int .i64 ((rd_T64 t318 x32_1).f2)]] ?_; (with_reducible refine (spec_shWith.calls kj22 _ _ x3_1 ((rd_T64 t318 x32_1).f0) ((rd_T64 t318 x32_1).f1) ((rd_T64 t318 x32_1).f2) t335 true _ ?_ ?_ A52.out).mono ?_); exact Z7 HO_3.out; exact (Kd.R_reads' HO_3.out).2.1; rintro e w57 ⟨v336, rfl, ho0, hb⟩; refine ⟨_, rfl, ?_⟩; refine k7_ (Yb_ HO_3.out) (Yb_ HO_30.out) (Kd.R_lower (Kd.R_newB (Kd.R_new' (Kd.R_new' ho0 (Yd_ HO_3.out)) (Yd_ HO_30.out)) (g := gb324) (o := .cells #[.int .i64 ((rd_T64 t318 x32_1).f0), .int .i64 ((rd_T64 t318 x32_1).f1), .int .i64 ((rd_T64 t318 x32_1).f2)] 64 (0, 0)) (Z2 BK324.out)) (keep_size (w := w) (g := g) (row := none) (Z48))) (blk_below (g := gb324) (o := .cells #[.int .i64 ((rd_T64 t318 x32_1).f0), .int .i64 ((rd_T64 t318 x32_1).f1), .int .i64 ((rd_T64 t318 x32_1).f2)] 64 (0, 0)) (Z2 BK324.out) hb) (IsS49.below (Z29) hb) (KeepBut.trans (Z48) (KeepBut.of_below hb g none) (.inl rfl)) (below_step (Z69) hb) ?_; clear HO_3 HO_30 BK324 HI0 HK HB; intro HO_3 HO_30 HO337 BK324 HI0 HK HB; (try clear hb ho0)))
         go_roundg kj22
         case measure => have := HK1.out; have := HJ22.out; omega
         case rel => exact ⟨(t335), (wrap64 (x32_1 + 1)), (x1001_22), (x1002_22), (Z17), H', ⟨Z220⟩, ⟨by (with_reducible repeat (first | apply Kd.R_alloc | apply Kd.R_drewN | apply Kd.R_drew)); exact Kd.R_mono HO337.out (fun _ hk => hk.1.2)⟩, ⟨Z83 HO_30.out⟩, ⟨Z29⟩, ⟨Z48⟩, ⟨Z69⟩⟩
        replace c53 := Bool.eq_false_iff.mpr c53
        subst c53
        rw [if_neg (show ¬ (false = true) by decide)] at H
        have H' := Aside0.mk H
        clear H
        have hnb58 := NB324_0.out
        have hnc58 := NB0_324.out
        obtain ⟨hcz59_0, hcz59_1, hcz59_2, hfz59_0, hfz59_1, hfz59_2⟩ := bx3_ (w := wc) BK324.out
        obtain ⟨Ao60, co60, eo60⟩ := Kd.R_slice HO_3.out
        subst eo60
        go_wp2_with (first | ((with_reducible refine gate_callee (f := 44) rfl ?_); refine gl_ 57 Try.func44 #[.slice Ao60 x3_1.length co60, .agg #[.int .i64 ((rd_T64 t318 x32_1).f0), .int .i64 ((rd_T64 t318 x32_1).f1), .int .i64 ((rd_T64 t318 x32_1).f2)]] ?_; (with_reducible refine (spec_shWith.calls kj22 _ _ x3_1 ((rd_T64 t318 x32_1).f0) ((rd_T64 t318 x32_1).f1) ((rd_T64 t318 x32_1).f2) t335 false _ ?_ ?_ A52.out).mono ?_); exact Z7 HO_3.out; exact (Kd.R_reads' HO_3.out).2.1; rintro e w61 ⟨v336, rfl, ho0, hb⟩; refine ⟨_, rfl, ?_⟩; refine k7_ (Yb_ HO_3.out) (Yb_ HO_30.out) (Kd.R_lower (Kd.R_newB (Kd.R_new' (Kd.R_new' ho0 (Yd_ HO_3.out)) (Yd_ HO_30.out)) (g := gb324) (o := .cells #[.int .i64 ((rd_T64 t318 x32_1).f0), .int .i64 ((rd_T64 t318 x32_1).f1), .int .i64 ((rd_T64 t318 x32_1).f2)] 64 (0, 0)) (Z2 BK324.out)) (keep_size (w := w) (g := g) (row := none) (Z48))) (blk_below (g := gb324) (o := .cells #[.int .i64 ((rd_T64 t318 x32_1).f0), .int .i64 ((rd_T64 t318 x32_1).f1), .int .i64 ((rd_T64 t318 x32_1).f2)] 64 (0, 0)) (Z2 BK324.out) hb) (IsS49.below (Z29) hb) (KeepBut.trans (Z48) (KeepBut.of_below hb g none) (.inl rfl)) (below_step (Z69) hb) ?_; clear HO_3 HO_30 BK324 HI0 HK HB; intro HO_3 HO_30 HO337 BK324 HI0 HK HB; (try clear hb ho0)))
        go_roundg kj22
        case measure => have := HK1.out; have := HJ22.out; omega
        case rel => exact ⟨(x3_1), (wrap64 (x32_1 + 1)), (x1001_22), (x1002_22), (Z17), H', ⟨Z220⟩, ⟨Z160 HO_3.out⟩, ⟨Z160 HO_30.out⟩, ⟨Z29⟩, ⟨Z48⟩, ⟨Z69⟩⟩
     rw [if_neg c22] at H
     exact absurd H (by simp)
    rw [if_neg c21] at H
    exact absurd H (by simp)
   rw [if_neg c20] at H
   have c20b0 : decide (x32_1 < (t318.length : Int)) = false := decide_eq_false c20
   clear c20
   replace H := Option.bind_eq_some_iff.mp H
   obtain ⟨⟨t339, t340, t341⟩, A620, H⟩ := H
   (try dsimp only at H)
   have A62 := Aside0.mk A620
   clear A620
   by_cases c63 : t339 = true
   ·subst c63
    rw [if_pos rfl] at H
    replace H := Option.bind_eq_some_iff.mp H
    obtain ⟨⟨t342, t345, t346⟩, A640, H⟩ := H
    (try dsimp only at H)
    have A64 := Aside0.mk A640
    clear A640
    simp only [Option.some.injEq, Prod.mk.injEq] at H
    obtain ⟨rfl, rfl, rfl⟩ := H
    go_wp2_with (first | ((with_reducible refine gate_callee (f := 23) rfl ?_); refine gl_ 64 Try.func23 #[.pointer (some ⟨g, 0, none⟩), .int .i64 16] ?_; (with_reducible refine (spec_l1Cur_one.calls g s0_0 x1001_1 x1002_1 16 true t340 t341 w0 _ ?_ ?_ A62.out).mono ?_); exact Z4 HI0.out; exact Z9; rintro e w65 ⟨rfl, hi, hb, hk⟩; refine ⟨_, rfl, ?_⟩; refine k5_ (Kd.R_mono (Kd.R_keep (IsS49.apart (show IsS49 w0 _ g s0_0 x1001_1 x1002_1 from Z4 HI0.out) (Z1 HO_3.out) (by decide)) hk (fun _ h => h.2)) (fun _ h => h.1)) (Kd.R_mono (Kd.R_keep (IsS49.apart (show IsS49 w0 _ g s0_0 x1001_1 x1002_1 from Z4 HI0.out) (Z1 HO_30.out) (by decide)) hk (fun _ h => h.2)) (fun _ h => h.1)) (KeepBut.trans (Z6) hk (.inl rfl)) (hb) (hi) ?_; clear HO_3 HO_30 HK HB HI0; intro HO_3 HO_30 HK HB HI0; (try clear hb hk hi)) | ((with_reducible refine gate_callee (f := 36) rfl ?_); refine gl_ 66 Try.func36 #[.pointer (some ⟨g, 0, none⟩)] ?_; (with_reducible refine (spec_l1Cur_anySheet.calls k1 g s0_0 t340 t341 t342 t345 t346 w0 _ ?_ ?_ A64.out).mono ?_); exact Z4 HI0.out; exact Z9; rintro e w66 ⟨v343, rfl, ho0, hi, hb, hk⟩; refine ⟨_, rfl, ?_⟩; refine k6_ (Kd.R_mono (Kd.R_told (Kd.R_oldK (IsS49.apart (show IsS49 w0 _ g s0_0 t340 t341 from Z4 HI0.out) (Z1 HO_3.out) (by decide)) hk) (Kd.R_base ho0)) (fun _ h_ => h_.1)) (Kd.R_mono (Kd.R_told (Kd.R_oldK (IsS49.apart (show IsS49 w0 _ g s0_0 t340 t341 from Z4 HI0.out) (Z1 HO_30.out) (by decide)) hk) (Kd.R_base ho0)) (fun _ h_ => h_.1)) (Kd.R_lower (Kd.R_new' (Kd.R_new' ho0 (Yd_ HO_3.out)) (Yd_ HO_30.out)) (keep_size (w := w) (g := g) (row := none) (Z6))) (KeepBut.trans (Z6) hk (.inl rfl)) (hb) (hi) ?_; clear HO_3 HO_30 HK HB HI0; intro HO_3 HO_30 HO344 HK HB HI0; (try clear hb hk hi ho0)))
    go_ret
    exact ⟨_, Z11, Z103 HO344.out, Z4 HI0.out, Z9, Z6⟩
   replace c63 := Bool.eq_false_iff.mpr c63
   subst c63
   rw [if_neg (show ¬ (false = true) by decide)] at H
   simp only [Option.some.injEq, Prod.mk.injEq] at H
   obtain ⟨rfl, rfl, rfl⟩ := H
   go_wp2_with (first | ((with_reducible refine gate_callee (f := 23) rfl ?_); refine gl_ 64 Try.func23 #[.pointer (some ⟨g, 0, none⟩), .int .i64 16] ?_; (with_reducible refine (spec_l1Cur_one.calls g s0_0 x1001_1 x1002_1 16 false t340 t341 w0 _ ?_ ?_ A62.out).mono ?_); exact Z4 HI0.out; exact Z9; rintro e w67 ⟨rfl, hi, hb, hk⟩; refine ⟨_, rfl, ?_⟩; refine k5_ (Kd.R_mono (Kd.R_keep (IsS49.apart (show IsS49 w0 _ g s0_0 x1001_1 x1002_1 from Z4 HI0.out) (Z1 HO_3.out) (by decide)) hk (fun _ h => h.2)) (fun _ h => h.1)) (Kd.R_mono (Kd.R_keep (IsS49.apart (show IsS49 w0 _ g s0_0 x1001_1 x1002_1 from Z4 HI0.out) (Z1 HO_30.out) (by decide)) hk (fun _ h => h.2)) (fun _ h => h.1)) (KeepBut.trans (Z6) hk (.inl rfl)) (hb) (hi) ?_; clear HO_3 HO_30 HK HB HI0; intro HO_3 HO_30 HK HB HI0; (try clear hb hk hi)))
   go_ret
   exact ⟨_, Z11, Z103 HO_3.out, Z4 HI0.out, Z9, Z6⟩

end Go.Proofs.Ytflefblmaopaiaa.PFnStops
