-- written by a program of this session: the kit's print, with outer functions of the session's own (wip/ext)
import Derived.Test.YtmnnmddfmmaohaaPFnStainsx0
import Derived.Test.YtmnnmddfmmaohaaPFnStainsx1
import Derived.Test.YtmnnmddfmmaohaaPFnStainsx6
import Derived.Test.YtmnnmddfmmaohaaPFnStainsx10
import Derived.Test.YtmnnmddfmmaohaaPFnStainsx12
import Derived.Test.YtmnnmddfmmaohaaPFnStainsx13
namespace Go.Proofs.Ytmnnmddfmmaohaa.PFnStains
open Go.RowKit Go.Proofs.YtmnnmddfmmaohaaW.PrintWords Go.Proofs.YtmnnmddfmmaohaaW.PrintLast Go.Proofs.YtmnnmddfmmaohaaW.PrintMore
attribute [local go_sem] max2_int min2_int max_two min_two max_three min_three max_four min_four   -- for this text's walks alone
set_option linter.unusedVariables false
set_option linter.unusedSimpArgs false
theorem mo14_ {p : Prop} (h : p := by repeat' first | (with_reducible first | apply ih0 | apply ih0 | apply ih1 | apply ih1 | apply ih2 | apply ih2 | apply spec_DrawAgreeScans.mono | apply spec_DrawAgreeScans.mono | apply spec_StainScan.mono | apply spec_StainScan.mono | apply spec_l1Cur_scan.mono | apply spec_l1Cur_scan.mono | apply spec_l1Cur_scansTwo.mono | apply spec_l1Cur_scansTwo.mono | apply spec_scFill.mono | apply spec_scFill.mono | apply spec_scGood.mono | apply spec_scGood.mono | apply spec_scSkew.mono | apply spec_scSkew.mono | exact LeO.refl _ | exact LeO.none _ | refine LeO.ite ?_ ?_ | refine LeO.bind ?_ (fun _ => ?_)) | exact LeO.none _ | refine LeO.ite ?_ ?_ | refine LeO.bind ?_ (fun _ => ?_)) : p := h

/-! ### spec_l1Cur_scansTwo: function 93 -/
mutual
def spec_l1Cur_scansTwo.j0 : Nat → List ByteArray → Bool → List Int → Int → Int → Option (List ByteArray × List ByteArray × Int × Int)
 | 0, _, _, _, _, _ => none
 | k + 1, x4, x15, x1000, x1001, x1002 => if x15 = true then ((spec_l1Cur_scan.f k x1000 x1001 x1002).bind fun bt507 => (some (x4, bt507.1, bt507.2.1, bt507.2.2))) else ((some (([] : List ByteArray) : List ByteArray)).bind fun y512 => (if y512.length + x4.length < 8796093022208 then ((some (y512 ++ x4 : List ByteArray)).bind fun y515 => ((spec_l1Cur_one.f x1000 x1001 x1002 3).bind fun bt518 => (if bt518.1 = true then ((spec_l1Cur_pick.f x1000 bt518.2.1 bt518.2.2 21).bind fun bt521 => ((spec_scSkew.f k y515 (wrap64 (bt521.1 - 10))).bind fun t524 => (spec_l1Cur_scansTwo.j1 k x4 t524 x1000 bt521.2.1 bt521.2.2))) else (spec_l1Cur_scansTwo.j1 k x4 y515 x1000 bt518.2.1 bt518.2.2)))) else (none)))
def spec_l1Cur_scansTwo.j1 : Nat → List ByteArray → List ByteArray → List Int → Int → Int → Option (List ByteArray × List ByteArray × Int × Int)
 | 0, _, _, _, _, _ => none
 | k + 1, x4, x5, x1000, x1001, x1002 => (spec_l1Cur_pick.f x1000 x1001 x1002 3).bind fun bt527 => (spec_l1Cur_scansTwo.l0 k x4 x5 bt527.1 x1000 bt527.2.1 bt527.2.2)
def spec_l1Cur_scansTwo.l0 : Nat → List ByteArray → List ByteArray → Int → List Int → Int → Int → Option (List ByteArray × List ByteArray × Int × Int)
 | 0, _, _, _, _, _, _ => none
 | k + 1, x4, x5, x6, x1000, x1001, x1002 => if x6 > 0 then ((spec_l1Cur_pick.f x1000 x1001 x1002 (x5.length : Int)).bind fun bt530 => (if 0 < (x5.length : Int) then ((spec_l1Cur_pick.f x1000 bt530.2.1 bt530.2.2 ((rdOf ByteArray.empty x5 0).size : Int)).bind fun bt534 => ((spec_l1Cur_pick.f x1000 bt534.2.1 bt534.2.2 2).bind fun bt537 => ((spec_StainScan.f k x5 bt530.1 bt534.1 (wrap64 (1 + bt537.1))).bind fun bt540 => (spec_l1Cur_scansTwo.l0 k x4 bt540.1 (wrap64 (x6 - 1)) x1000 bt537.2.1 bt537.2.2)))) else (none))) else ((spec_l1Cur_one.f x1000 x1001 x1002 4).bind fun bt544 => (if bt544.1 = true then ((spec_l1Cur_of.f x1000 bt544.2.1 bt544.2.2 (([(⟨#[46]⟩ : ByteArray), (⟨#[111]⟩ : ByteArray)] : List ByteArray))).bind fun bt550 => ((spec_scFill.f k x5 bt550.1).bind fun t553 => (some (x4, t553, bt550.2.1, bt550.2.2)))) else (some (x4, x5, bt544.2.1, bt544.2.2))))
end
def spec_l1Cur_scansTwo.f (k : Nat) (s0_0 : List Int) (s0_1 : Int) (s0_2 : Int) : Option (List ByteArray × List ByteArray × Int × Int) := (spec_l1Cur_scan.f k s0_0 s0_1 s0_2).bind fun bt498 => ((spec_scGood.f k bt498.1).bind fun t503 => (if t503 = true then ((spec_l1Cur_one.f s0_0 bt498.2.1 bt498.2.2 8).bind fun bt504 => (spec_l1Cur_scansTwo.j0 k bt498.1 bt504.1 s0_0 bt504.2.1 bt504.2.2)) else (spec_l1Cur_scansTwo.j0 k bt498.1 true s0_0 bt498.2.1 bt498.2.2)))
theorem spec_l1Cur_scansTwo.mono_l : ∀ k, (∀ y0 y1 y2 y3 y4, LeO (spec_l1Cur_scansTwo.j0 k y0 y1 y2 y3 y4) (spec_l1Cur_scansTwo.j0 (k + 1) y0 y1 y2 y3 y4)) ∧ (∀ y0 y1 y2 y3 y4, LeO (spec_l1Cur_scansTwo.j1 k y0 y1 y2 y3 y4) (spec_l1Cur_scansTwo.j1 (k + 1) y0 y1 y2 y3 y4)) ∧ (∀ y0 y1 y2 y3 y4 y5, LeO (spec_l1Cur_scansTwo.l0 k y0 y1 y2 y3 y4 y5) (spec_l1Cur_scansTwo.l0 (k + 1) y0 y1 y2 y3 y4 y5))
 | 0 => ⟨fun _ _ _ _ _ r h => by simp [spec_l1Cur_scansTwo.j0] at h, fun _ _ _ _ _ r h => by simp [spec_l1Cur_scansTwo.j1] at h, fun _ _ _ _ _ _ r h => by simp [spec_l1Cur_scansTwo.l0] at h⟩
 | k + 1 => by
  obtain ⟨ih0, ih1, ih2⟩ := spec_l1Cur_scansTwo.mono_l k
  refine ⟨?_, ?_, ?_⟩
  ·intro y0 y1 y2 y3 y4
   unfold spec_l1Cur_scansTwo.j0
   exact mo14_
  ·intro y0 y1 y2 y3 y4
   unfold spec_l1Cur_scansTwo.j1
   exact mo14_
  intro y0 y1 y2 y3 y4 y5
  unfold spec_l1Cur_scansTwo.l0
  exact mo14_
theorem spec_l1Cur_scansTwo.mono : ∀ a0 a1 a2 k, LeO (spec_l1Cur_scansTwo.f k a0 a1 a2) (spec_l1Cur_scansTwo.f (k + 1) a0 a1 a2) := by
 intro a0 a1 a2 k
 obtain ⟨ih0, ih1, ih2⟩ := spec_l1Cur_scansTwo.mono_l k
 unfold spec_l1Cur_scansTwo.f
 exact mo14_
def spec_l1Cur_scansTwo.T10 : Bool × List (List Nat × List Nat) := (true, [([], []), ([], []), ([], []), ([2], [2]), ([1, 3], [1, 3]), ([], []), ([], []), ([6], [6]), ([7], [7]), ([8], [8]), ([5, 9, 4], [5, 9]), ([], []), ([11, 10], [11]), ([12], [12]), ([0, 4, 10, 13, 12], [0, 4, 10, 13]), ([14], [14]), ([15], [15]), ([15], [15]), ([16, 14, 0, 1, 2, 3, 4, 5, 6, 7, 8, 9, 10, 11, 12, 13, 14, 15, 16], [0, 2, 6, 16])])
def spec_l1Cur_scansTwo.B10 : List Nat := [0, 0, 0, 4, 14, 0, 0, 64, 192, 448, 1022, 0, 4094, 8190, 16383, 32767, 65535, 65535, 131071]
theorem spec_l1Cur_scansTwo.tab10 : rtab .any (opsOf Try.f93 10) = spec_l1Cur_scansTwo.T10 := by kernel_rfl
theorem spec_l1Cur_scansTwo.bits10 : waitsOk spec_l1Cur_scansTwo.T10.2 spec_l1Cur_scansTwo.B10 = true := by kernel_rfl
set_option maxHeartbeats 8000000 in
set_option maxRecDepth 100000 in
theorem spec_l1Cur_scansTwo.calls (k : Nat) (g : Nat) (s0_0 : List Int) (s0_1 : Int) (s0_2 : Int) (r1 : List ByteArray) (r2 : List ByteArray) (r3 : Int) (r4 : Int) (w0 w : World) (hI : IsS69 w0 w g s0_0 s0_1 s0_2) (hB : Below w0.heap.size w0 w) (h : spec_l1Cur_scansTwo.f k s0_0 s0_1 s0_2 = some (r1, r2, r3, r4)) :
  Calls Try.prog 93 #[.pointer (some ⟨g, 0, none⟩)] w fun e w' => ∃ v0_ v1_ : Value, e = .returned (.tuple #[v0_, v1_]) ∧ Kd.R Kd.string 9 w' w.heap.size (fun k_ => some k_ ≠ (v1_ : Value).ownBlock) v0_ r1 ∧ Kd.R Kd.string 9 w' w.heap.size (fun k_ => some k_ ≠ (v0_ : Value).ownBlock) v1_ r2 ∧ IsS69 w0 w' g s0_0 r3 r4 ∧ Below w0.heap.size w0 w' ∧ KeepBut w w' g none := by
 have HI0 := Aside0.mk hI
 have HK := Aside0.mk (KeepBut.refl w g none)
 have HL := Aside0.mk hB.size
 clear hI
 have HW0 := Aside0.mk hB.size
 have HB := Aside0.mk hB
 clear hB
 have H : ((spec_l1Cur_scan.f k s0_0 s0_1 s0_2).bind fun bt498 => ((spec_scGood.f k bt498.1).bind fun t503 => (if t503 = true then ((spec_l1Cur_one.f s0_0 bt498.2.1 bt498.2.2 8).bind fun bt504 => (spec_l1Cur_scansTwo.j0 k bt498.1 bt504.1 s0_0 bt504.2.1 bt504.2.2)) else (spec_l1Cur_scansTwo.j0 k bt498.1 true s0_0 bt498.2.1 bt498.2.2)))) = some (r1, r2, r3, r4) := h
 clear h
 replace H := Option.bind_eq_some_iff.mp H
 obtain ⟨⟨t498, t501, t502⟩, A20, H⟩ := H
 (try dsimp only at H)
 have A2 := Aside0.mk A20
 clear A20
 have HC3 := Aside0.mk H
 clear H
 go_enter Try.func93, Try.ntmps93
 go_upto_region 2 with (first | ((with_reducible refine gate_callee (f := 44) rfl ?_); refine gl_ 8 Try.func44 #[.pointer (some ⟨g, 0, none⟩)] ?_; (with_reducible refine (spec_l1Cur_scan.calls k g s0_0 s0_1 s0_2 t498 t501 t502 w0 _ ?_ ?_ A2.out).mono ?_); exact Z3 HI0.out; exact Z7; rintro e w4 ⟨v499, rfl, ho0, hi, hb, hk⟩; refine ⟨_, rfl, ?_⟩; refine k4_ (Kd.R_lower ho0 (keep_size (w := w) (g := g) (row := none) (Z6))) (KeepBut.trans (Z6) hk (.inl rfl)) (hb) (hi) ?_; clear HK HB HI0; intro HO500 HK HB HI0; (try clear hb hk hi ho0)))
 (try simp only [Act.put, List.setIfInBounds_toArray, List.set_cons_zero, List.set_cons_succ])
 go_cut [15] (fun v15 wc => ∃ (kq : Nat) (x15_2 : Bool) (x1001_2 : Int) (x1002_2 : Int), v15 = .bool x15_2 ∧ Aside0 (spec_l1Cur_scansTwo.j0 kq t498 x15_2 s0_0 x1001_2 x1002_2 = some (r1, r2, r3, r4)) ∧ Aside0 (kq ≤ k) ∧ Aside0 (Kd.R Kd.string 9 wc w.heap.size (fun _ => True) v499 t498) ∧ Aside0 (IsS69 w0 wc g s0_0 x1001_2 x1002_2) ∧ Aside0 (KeepBut w wc g none) ∧ Aside0 (Below w0.heap.size w0 wc))
 case first =>
  have H := HC3.out
  clear HC3
  replace H := Option.bind_eq_some_iff.mp H
  obtain ⟨t503, A50, H⟩ := H
  (try dsimp only at H)
  have A5 := Aside0.mk A50
  clear A50
  by_cases c6 : t503 = true
  ·subst c6
   rw [if_pos rfl] at H
   replace H := Option.bind_eq_some_iff.mp H
   obtain ⟨⟨t504, t505, t506⟩, A70, H⟩ := H
   (try dsimp only at H)
   have A7 := Aside0.mk A70
   clear A70
   have H' := Aside0.mk H
   clear H
   obtain ⟨Ao8, co8, eo8⟩ := Kd.R_slice HO500.out
   subst eo8
   go_wp2_with (first | ((with_reducible refine gate_callee (f := 51) rfl ?_); refine gl_ 10 Try.func51 #[.slice Ao8 t498.length co8] ?_; (with_reducible refine (spec_scGood.calls k _ _ t498 true _ ?_ ?_ A5.out).mono ?_); exact Z5 HO500.out; exact (Kd.R_reads' HO500.out).2.1; rintro e w' ⟨rfl, ⟨nd, rfl⟩⟩; refine ⟨_, rfl, ?_⟩) | (go_at_call 79; (with_reducible refine (spec_l1Cur_one.calls g s0_0 t501 t502 8 t504 t505 t506 w0 _ ?_ ?_ A7.out).mono ?_); exact Z3 HI0.out; exact Z7; rintro e w9 ⟨rfl, hi, hb, hk⟩; refine k4_ (Kd.R_mono (Kd.R_keep (IsS69.apart (show IsS69 w0 _ g s0_0 t501 t502 from Z3 HI0.out) (Z1 HO500.out) (by decide)) hk (fun _ h => h.2)) (fun _ h => h.1)) (KeepBut.trans (Z6) hk (.inl rfl)) (hb) (hi) ?_; clear HO500 HK HB HI0; intro HO500 HK HB HI0; (try clear hb hk hi)))
   go_meet
   case rel => exact ⟨_, (t504), (t505), (t506), (Z10), H', ⟨Z65⟩, ⟨Z1 HO500.out⟩, ⟨Z3 HI0.out⟩, ⟨Z6⟩, ⟨Z7⟩⟩
  replace c6 := Bool.eq_false_iff.mpr c6
  subst c6
  rw [if_neg (show ¬ (false = true) by decide)] at H
  have H' := Aside0.mk H
  clear H
  obtain ⟨Ao10, co10, eo10⟩ := Kd.R_slice HO500.out
  subst eo10
  go_wp2_with (first | ((with_reducible refine gate_callee (f := 51) rfl ?_); refine gl_ 10 Try.func51 #[.slice Ao10 t498.length co10] ?_; (with_reducible refine (spec_scGood.calls k _ _ t498 false _ ?_ ?_ A5.out).mono ?_); exact Z5 HO500.out; exact (Kd.R_reads' HO500.out).2.1; rintro e w' ⟨rfl, ⟨nd, rfl⟩⟩; refine ⟨_, rfl, ?_⟩))
  go_meet
  case rel => exact ⟨_, (true), (t501), (t502), (Z10), H', ⟨Z65⟩, ⟨Z1 HO500.out⟩, ⟨Z3 HI0.out⟩, ⟨Z6⟩, ⟨Z7⟩⟩
 case rest =>
  clear HC3
  (try clear p2); (try clear c4); (try clear c5); (try clear c6); (try clear c9)
  obtain ⟨kq, x15_2, x1001_2, x1002_2, rfl, HA, HJ2, HO_4, HI0, HK, HB⟩ := hcut
  cases kq with
  | zero => exact absurd HA.out (by simp [spec_l1Cur_scansTwo.j0])
  | succ kj2 =>
   have H := HA.out
   clear HA
   simp only [spec_l1Cur_scansTwo.j0] at H
   by_cases c11 : x15_2 = true
   ·subst c11
    rw [if_pos rfl] at H
    replace H := Option.bind_eq_some_iff.mp H
    obtain ⟨⟨t507, t510, t511⟩, A120, H⟩ := H
    (try dsimp only at H)
    have A12 := Aside0.mk A120
    clear A120
    simp only [Option.some.injEq, Prod.mk.injEq] at H
    obtain ⟨rfl, rfl, rfl, rfl⟩ := H
    go_wp2_with (first | ((with_reducible refine gate_callee (f := 44) rfl ?_); refine gl_ 18 Try.func44 #[.pointer (some ⟨g, 0, none⟩)] ?_; (with_reducible refine (spec_l1Cur_scan.calls kj2 g s0_0 x1001_2 x1002_2 t507 t510 t511 w0 _ ?_ ?_ A12.out).mono ?_); exact Z3 HI0.out; exact Z7; rintro e w13 ⟨v508, rfl, ho0, hi, hb, hk⟩; refine ⟨_, rfl, ?_⟩; refine k5_ (Kd.R_mono (Kd.R_told (Kd.R_oldK (IsS69.apart (show IsS69 w0 _ g s0_0 x1001_2 x1002_2 from Z3 HI0.out) (Z1 HO_4.out) (by decide)) hk) (Kd.R_base ho0)) (fun _ h_ => h_.1)) (Kd.R_lower (Kd.R_new' ho0 (Kd.R_lt (Z1 HO_4.out))) (keep_size (w := w) (g := g) (row := none) (Z6))) (KeepBut.trans (Z6) hk (.inl rfl)) (hb) (hi) ?_; clear HO_4 HK HB HI0; intro HO_4 HO509 HK HB HI0; (try clear hb hk hi ho0)))
    go_ret2
    exact ⟨_, _, Z11, Z52 HO_4.out, Z52 HO509.out, Z3 HI0.out, Z7, Z6⟩
   replace c11 := Bool.eq_false_iff.mpr c11
   subst c11
   rw [if_neg (show ¬ (false = true) by decide)] at H
   obtain ⟨y512, hy512⟩ : ∃ y_ : List ByteArray, y_ = (([] : List ByteArray)) := ⟨_, rfl⟩
   replace H : (if y512.length + t498.length < 8796093022208 then ((some (y512 ++ t498 : List ByteArray)).bind fun y515 => ((spec_l1Cur_one.f s0_0 x1001_2 x1002_2 3).bind fun bt518 => (if bt518.1 = true then ((spec_l1Cur_pick.f s0_0 bt518.2.1 bt518.2.2 21).bind fun bt521 => ((spec_scSkew.f kj2 y515 (wrap64 (bt521.1 - 10))).bind fun t524 => (spec_l1Cur_scansTwo.j1 kj2 t498 t524 s0_0 bt521.2.1 bt521.2.2))) else (spec_l1Cur_scansTwo.j1 kj2 t498 y515 s0_0 bt518.2.1 bt518.2.2)))) else (none)) = some (r1, r2, r3, r4) := by first | (rw [hy512]; with_reducible exact H) | (have H2_ := (Option.bind_some _ _).symm.trans H; rw [hy512]; with_reducible exact H2_) | (have H2_ := (Option.bind_some _ _).symm.trans H; with_reducible exact H2_) | with_reducible exact H | (rw [hy512]; exact H) | exact H
   have Ny512 := Aside0.mk hy512
   clear hy512
   by_cases c14 : y512.length + t498.length < 8796093022208
   ·rw [if_pos c14] at H
    have LMc14 := Aside0.mk c14
    clear c14
    obtain ⟨y515, hy515⟩ : ∃ y_ : List ByteArray, y_ = (y512 ++ t498) := ⟨_, rfl⟩
    replace H : ((spec_l1Cur_one.f s0_0 x1001_2 x1002_2 3).bind fun bt518 => (if bt518.1 = true then ((spec_l1Cur_pick.f s0_0 bt518.2.1 bt518.2.2 21).bind fun bt521 => ((spec_scSkew.f kj2 y515 (wrap64 (bt521.1 - 10))).bind fun t524 => (spec_l1Cur_scansTwo.j1 kj2 t498 t524 s0_0 bt521.2.1 bt521.2.2))) else (spec_l1Cur_scansTwo.j1 kj2 t498 y515 s0_0 bt518.2.1 bt518.2.2))) = some (r1, r2, r3, r4) := by first | (rw [hy515]; with_reducible exact H) | (have H2_ := (Option.bind_some _ _).symm.trans H; rw [hy515]; with_reducible exact H2_) | (have H2_ := (Option.bind_some _ _).symm.trans H; with_reducible exact H2_) | with_reducible exact H | (rw [hy515]; exact H) | exact H
    have Ny515 := Aside0.mk hy515
    clear hy515
    replace H := Option.bind_eq_some_iff.mp H
    obtain ⟨⟨t518, t519, t520⟩, A150, H⟩ := H
    (try dsimp only at H)
    have A15 := Aside0.mk A150
    clear A150
    have HC16 := Aside0.mk H
    clear H
    go_upto_if 23 with (first | ((with_reducible refine gate_dst (N := 19) rfl ?_); refine Kd.R_lit Kd.string _ 9 ?hg (N := 19) ?hd (xs := ([] : List ByteArray)) (inner := []) (ok := fun _ => True) (okp := fun _ => True) ?hr ?hp (fun _ hk => hk) trivial (Below.refl _ _) (Nat.le_refl _) (by simp) ?_; (case hd => rfl); (case hg => rfl); (case hr => exact Z44); (case hp => exact (Reps.none _ _)); intro v513 w17 ho18 hb hg_ hnew_; clear hg_ hnew_; (first | rw [← Ny512.out] at ho18 | (simp only [Int.reduceToNat] at ho18; rw [← Ny512.out] at ho18)); refine k5_ (Kd.R_elder' (Z1 HO_4.out) (Kd.R_base ho18) hb) (Kd.R_lower (Kd.R_new' ho18 (Kd.R_lt (Z1 HO_4.out))) (keep_size (w := w) (g := g) (row := none) (Z6))) (IsS69.below (Z3 HI0.out) hb) (KeepBut.trans (Z6) (KeepBut.of_below hb g none) (.inl rfl)) (below_step (Z7) hb) ?_; clear HO_4 HI0 HK HB; intro HO_4 HO514 HI0 HK HB; clear hb ho18; obtain ⟨Ao20, co20, eo20⟩ := Kd.R_slice HO_4.out; subst eo20) | ((with_reducible refine gate_builtin (b := .append) (xs := #[.tmp 19, .tmp 20]) rfl ?_); at_builtin; refine Kd.R_append_rows Kd.string w.heap.size rfl (.tmp 19) (.tmp 20) 24 9 (.string ⟨#[]⟩) 16 rfl Try.underlying24 info9 rfl (by decide) (by omega) v513 y512 t498 _ _ _ (fun k_ => some k_ ≠ (.slice Ao20 t498.length co20 : Value).ownBlock) (fun _ => False) rfl rfl ?aO ?aR (fun _ _ h => h) (fun _ h => h.elim) ?aF (Below.refl _ _) ?aS ?aL ?_; (case aR => exact Z5 HO_4.out); (case aF => exact (fun k_ hk => Kd.fresh' (Kd.R_lt (Z1 HO_4.out)) k_ hk)); (case aO => exact Z52 HO514.out); (case aS => exact (keep_size (w := w) (g := g) (row := none) (Z6))); (case aL => have := LMc14.out; omega); intro v516 w19 ho hb hg hat; rw [← Ny515.out] at ho; refine k5_ (Kd.R_after (ok := (fun _ => True)) (Z1 HO_4.out) hg hat) (IsS69.grown (Z3 HI0.out) hg (IsS69.own_ne HI0.out HO514.out (by decide))) (below_weaken (Z7) HL.out hb) (KeepBut.trans (Z6) (KeepBut.of_grown hg g) (Kd.R_base2 HO514.out)) (ho) ?_; clear HO_4 HI0 HB HK HO514; intro HO_4 HI0 HB HK HO517; clear ho hb hg hat) | ((with_reducible refine gate_callee (f := 79) rfl ?_); refine gl_ 23 Try.func79 #[.pointer (some ⟨g, 0, none⟩), .int .i64 3] ?_; (with_reducible refine (spec_l1Cur_one.calls g s0_0 x1001_2 x1002_2 3 t518 t519 t520 w0 _ ?_ ?_ A15.out).mono ?_); exact Z3 HI0.out; exact Z7; rintro e w21 ⟨rfl, hi, hb, hk⟩; refine ⟨_, rfl, ?_⟩; refine k5_ (Kd.R_mono (Kd.R_keep (IsS69.apart (show IsS69 w0 _ g s0_0 x1001_2 x1002_2 from Z3 HI0.out) (Z1 HO_4.out) (by decide)) hk (fun _ h => h.2)) (fun _ h => h.1)) (Kd.R_mono (Kd.R_keep (IsS69.apart (show IsS69 w0 _ g s0_0 x1001_2 x1002_2 from Z3 HI0.out) (Z1 HO517.out) (by decide)) hk (fun _ h => h.2)) (fun _ h => h.1)) (KeepBut.trans (Z6) hk (.inl rfl)) (hb) (hi) ?_; clear HO_4 HO517 HK HB HI0; intro HO_4 HO517 HK HB HI0; (try clear hb hk hi)))
    (try simp only [Act.put, List.setIfInBounds_toArray, List.set_cons_zero, List.set_cons_succ])
    go_cut [5] (fun v5 wc => ∃ (kq : Nat) (x5_15 : List ByteArray) (x1001_15 : Int) (x1002_15 : Int), Aside0 (spec_l1Cur_scansTwo.j1 kq t498 x5_15 s0_0 x1001_15 x1002_15 = some (r1, r2, r3, r4)) ∧ Aside0 (kq ≤ kj2) ∧ Aside0 (Kd.R Kd.string 9 wc w.heap.size (fun k_ => some k_ ≠ (v5 : Value).ownBlock) (.slice Ao20 t498.length co20) t498) ∧ Aside0 (Kd.R Kd.string 9 wc w.heap.size (fun k_ => some k_ ≠ ((.slice Ao20 t498.length co20) : Value).ownBlock) v5 x5_15) ∧ Aside0 (IsS69 w0 wc g s0_0 x1001_15 x1002_15) ∧ Aside0 (KeepBut w wc g none) ∧ Aside0 (Below w0.heap.size w0 wc))
    case first =>
     have H := HC16.out
     clear HC16
     by_cases c22 : t518 = true
     ·subst c22
      rw [if_pos rfl] at H
      replace H := Option.bind_eq_some_iff.mp H
      obtain ⟨⟨t521, t522, t523⟩, A230, H⟩ := H
      (try dsimp only at H)
      have A23 := Aside0.mk A230
      clear A230
      replace H := Option.bind_eq_some_iff.mp H
      obtain ⟨t524, A240, H⟩ := H
      (try dsimp only at H)
      have A24 := Aside0.mk A240
      clear A240
      have H' := Aside0.mk H
      clear H
      go_wp2_with (first | ((with_reducible refine gate_callee (f := 45) rfl ?_); refine gl_ 26 Try.func45 #[.pointer (some ⟨g, 0, none⟩), .int .i64 21] ?_; (with_reducible refine (spec_l1Cur_pick.calls g s0_0 t519 t520 21 t521 t522 t523 w0 _ ?_ ?_ A23.out).mono ?_); exact Z3 HI0.out; exact Z7; rintro e w25 ⟨rfl, hi, hb, hk⟩; refine ⟨_, rfl, ?_⟩; refine k5_ (Kd.R_mono (Kd.R_keep (IsS69.apart (show IsS69 w0 _ g s0_0 t519 t520 from Z3 HI0.out) (Z1 HO_4.out) (by decide)) hk (fun _ h => h.2)) (fun _ h => h.1)) (Kd.R_mono (Kd.R_keep (IsS69.apart (show IsS69 w0 _ g s0_0 t519 t520 from Z3 HI0.out) (Z1 HO517.out) (by decide)) hk (fun _ h => h.2)) (fun _ h => h.1)) (KeepBut.trans (Z6) hk (.inl rfl)) (hb) (hi) ?_; clear HO_4 HO517 HK HB HI0; intro HO_4 HO517 HK HB HI0; (try clear hb hk hi); obtain ⟨Ao26, co26, eo26⟩ := Kd.R_slice HO517.out; subst eo26) | ((with_reducible refine gate_callee (f := 64) rfl ?_); refine gl_ 28 Try.func64 #[.slice Ao26 y515.length co26, .int .i64 (wrap64 (t521 - 10))] ?_; (with_reducible refine (spec_scSkew.calls kj2 _ _ y515 (wrap64 (t521 - 10)) t524 _ ?_ ?_ A24.out).mono ?_); exact Z5 HO517.out; exact (Kd.R_reads' HO517.out).2.1; rintro e w27 ⟨v525, rfl, ho0, hb⟩; refine ⟨_, rfl, ?_⟩; refine k6_ (Kd.R_elder' (Z1 HO_4.out) (Kd.R_base ho0) hb) (Kd.R_elder' (Z1 HO517.out) (Kd.R_base ho0) hb) (Kd.R_lower (Kd.R_new' (Kd.R_new' ho0 (Kd.R_lt (Z1 HO_4.out))) (Kd.R_lt (Z1 HO517.out))) (keep_size (w := w) (g := g) (row := none) (Z6))) (IsS69.below (Z3 HI0.out) hb) (KeepBut.trans (Z6) (KeepBut.of_below hb g none) (.inl rfl)) (below_step (Z7) hb) ?_; clear HO_4 HO517 HI0 HK HB; intro HO_4 HO517 HO526 HI0 HK HB; (try clear hb ho0)))
      go_meet
      case rel => exact ⟨_, (t524), (t522), (t523), H', ⟨Z77 HJ2.out⟩, ⟨Z52 HO_4.out⟩, ⟨by (with_reducible repeat (first | apply Kd.R_alloc | apply Kd.R_drewN | apply Kd.R_drew)); exact Kd.R_mono HO526.out (fun _ hk => hk.1.2)⟩, ⟨Z3 HI0.out⟩, ⟨Z6⟩, ⟨Z7⟩⟩
     replace c22 := Bool.eq_false_iff.mpr c22
     subst c22
     rw [if_neg (show ¬ (false = true) by decide)] at H
     have H' := Aside0.mk H
     clear H
     go_wp2
     go_meet
     case rel => exact ⟨_, (y515), (t519), (t520), H', ⟨Z77 HJ2.out⟩, ⟨Z52 HO_4.out⟩, ⟨Z1 HO517.out⟩, ⟨Z3 HI0.out⟩, ⟨Z6⟩, ⟨Z7⟩⟩
    case rest =>
     clear HC16
     (try clear c1); (try clear c2); (try clear p6); (try clear c7); (try clear c11); (try clear c14); (try clear c22)
     obtain ⟨kq, x5_15, x1001_15, x1002_15, HA, HJ15, HO_4, HO_5, HI0, HK, HB⟩ := hcut
     cases kq with
     | zero => exact absurd HA.out (by simp [spec_l1Cur_scansTwo.j1])
     | succ kj15 =>
      have H := HA.out
      clear HA
      simp only [spec_l1Cur_scansTwo.j1] at H
      replace H := Option.bind_eq_some_iff.mp H
      obtain ⟨⟨t527, t528, t529⟩, A280, H⟩ := H
      (try dsimp only at H)
      have A28 := Aside0.mk A280
      clear A280
      have H' := Aside0.mk H
      clear H
      go_wp2_with (first | ((with_reducible refine gate_callee (f := 45) rfl ?_); refine gl_ 30 Try.func45 #[.pointer (some ⟨g, 0, none⟩), .int .i64 3] ?_; (with_reducible refine (spec_l1Cur_pick.calls g s0_0 x1001_15 x1002_15 3 t527 t528 t529 w0 _ ?_ ?_ A28.out).mono ?_); exact Z3 HI0.out; exact Z7; rintro e w29 ⟨rfl, hi, hb, hk⟩; refine ⟨_, rfl, ?_⟩; refine k5_ (Kd.R_mono (Kd.R_keep (IsS69.apart (show IsS69 w0 _ g s0_0 x1001_15 x1002_15 from Z3 HI0.out) (Z1 HO_4.out) (by decide)) hk (fun _ h => h.2)) (fun _ h => h.1)) (Kd.R_mono (Kd.R_keep (IsS69.apart (show IsS69 w0 _ g s0_0 x1001_15 x1002_15 from Z3 HI0.out) (Z1 HO_5.out) (by decide)) hk (fun _ h => h.2)) (fun _ h => h.1)) (KeepBut.trans (Z6) hk (.inl rfl)) (hb) (hi) ?_; clear HO_4 HO_5 HK HB HI0; intro HO_4 HO_5 HK HB HI0; (try clear hb hk hi)))
      go_loopg [5, 6] kj15 (fun kq v5 v6 w' => ∃ (x5_3 : List ByteArray) (x6_3 : Int) (x1001_3 : Int) (x1002_3 : Int), v6 = .int .i64 x6_3 ∧ Aside0 (spec_l1Cur_scansTwo.l0 kq t498 x5_3 x6_3 s0_0 x1001_3 x1002_3 = some (r1, r2, r3, r4)) ∧ Aside0 (kq ≤ kj15) ∧ Aside0 (Kd.R Kd.string 9 w' w.heap.size (fun k_ => some k_ ≠ (v5 : Value).ownBlock) (.slice Ao20 t498.length co20) t498) ∧ Aside0 (Kd.R Kd.string 9 w' w.heap.size (fun k_ => some k_ ≠ ((.slice Ao20 t498.length co20) : Value).ownBlock) v5 x5_3) ∧ Aside0 (IsS69 w0 w' g s0_0 x1001_3 x1002_3) ∧ Aside0 (KeepBut w w' g none) ∧ Aside0 (Below w0.heap.size w0 w'))
      case atStart => exact ⟨(x5_15), (t527), (t528), (t529), (Z10), H', ⟨Nat.le_refl _⟩, ⟨Z1 HO_4.out⟩, ⟨Z1 HO_5.out⟩, ⟨Z3 HI0.out⟩, ⟨Z6⟩, ⟨Z7⟩⟩
      case round =>
       clear H'
       obtain ⟨x5_3, x6_3, x1001_3, x1002_3, rfl, HA, HK3, HO_4, HO_5, HI0, HK, HB⟩ := hrel
       cases gk with
       | zero => exact absurd HA.out (by simp [spec_l1Cur_scansTwo.l0])
       | succ k3 =>
        have H := HA.out
        clear HA
        simp only [spec_l1Cur_scansTwo.l0] at H
        by_cases c30 : x6_3 > 0
        ·rw [if_pos c30] at H
         have c30b0 : decide (0 < x6_3) = true := decide_eq_true c30
         clear c30
         replace H := Option.bind_eq_some_iff.mp H
         obtain ⟨⟨t530, t531, t532⟩, A310, H⟩ := H
         (try dsimp only at H)
         have A31 := Aside0.mk A310
         clear A310
         by_cases c32 : 0 < (x5_3.length : Int)
         ·rw [if_pos c32] at H
          have c32b0 : decide (0 < (x5_3.length : Int)) = true := decide_eq_true c32
          have c32b1 : decide (0 < x5_3.length) = true := decide_eq_true (by omega)
          clear c32
          replace H := Option.bind_eq_some_iff.mp H
          obtain ⟨⟨t534, t535, t536⟩, A330, H⟩ := H
          (try dsimp only at H)
          have A33 := Aside0.mk A330
          clear A330
          replace H := Option.bind_eq_some_iff.mp H
          obtain ⟨⟨t537, t538, t539⟩, A340, H⟩ := H
          (try dsimp only at H)
          have A34 := Aside0.mk A340
          clear A340
          replace H := Option.bind_eq_some_iff.mp H
          obtain ⟨⟨t540, t541⟩, A350, H⟩ := H
          (try dsimp only at H)
          have A35 := Aside0.mk A350
          clear A350
          have H' := Aside0.mk H
          clear H
          try go_wp2
          refine k5_ (Kd.R_drew HO_4.out) (Kd.R_drew HO_5.out) (IsS69.drew HI0.out) (keep_drew HK.out) (below_drew1 HB.out) ?_
          clear HO_4 HO_5 HI0 HK HB
          intro HO_4 HO_5 HI0 HK HB
          obtain ⟨Ao37, co37, eo37⟩ := Kd.R_slice HO_5.out
          (first | subst eo37 | (injection eo37 with f1_ f2_ f3_; have f4_ := f1_.symm; have f5_ := f3_.symm; clear f1_ f2_ f3_; subst f4_; subst f5_))
          have p533 : 0 ≤ (0 : Int) := (by omega)
          have q533 : 0 < (x5_3.length : Int) := of_decide_eq_true (Z8)
          obtain ⟨ad533, e533, hx533_0⟩ := Kd.at_string (Kd.R_reads' HO_5.out).2.2 0 p533 q533
          cases e533
          have qi533 : (0 < x5_3.length) = True := eq_true (by omega)
          (try rw [show ((0 : Int)).toNat = 0 from rfl] at hx533_0)
          (try rw [Addr.add_zero'] at hx533_0)
          replace p533 := eq_true p533
          replace q533 := eq_true q533
          refine start_ (n := 19) (S := fun w' => w'.cell? ad533 = some (.string (rdOf ByteArray.empty x5_3 0))) (ds := []) (M_ 0 19) (by kernel_rfl) rfl rfl (hx533_0) (fun hHeld => ?_); refine with_tabW spec_l1Cur_scansTwo.tab10 spec_l1Cur_scansTwo.bits10 (fun HT_ HW_ => ?_)
          generalize wr.drew = w36 at HO_4 HO_5 HI0 HK HB hx533_0 hHeld ⊢
          refine pu_ 0 36 (M_ 1 18) ?_
          refine pu_ 1 37 (M_ 2 17) ?_
          refine pu_ 2 38 (M_ 3 16) ?_
          refine pu_ 3 39 (M_ 4 15) ?_
          refine pu_ 5 41 (N_ 19 47) ?_
          refine pu_ 6 42 (N_ 19 111) ?_
          refine pu_ 7 43 (N_ 19 239) ?_
          refine pu_ 11 47 (N_ 19 2287) ?_
          refine take_ (i := 8) (N := some 44) (v := ?_) (a' := ?_) (N_ 19 2543) rfl rfl (take_ofW HT_.out HW_.out (by kernel_rfl)) (fun _ _ _ h => h) (Or.inl ⟨by rfl, ?_⟩) hHeld ?_ ?_
          rotate_left
          ·intro w' s0
           go_simp
           with_reducible rfl
          rotate_left
          ·exact ka_
          refine pu_ 9 45 (N_ 19 3055) ?_
          refine one_ (i := 4) (N := some 40) (N_ 19 3071) rfl rfl (one_of HT_.out (by kernel_rfl)) (by decide) (fun K hK => ?_)
          refine goes_ Try.func45 (by kernel_rfl) rfl #[.pointer (some ⟨g, 0, none⟩), .int .i64 (x5_3.length : Int)] (by rfl) rfl rfl (Z18) ?_
          with_reducible refine (spec_l1Cur_pick.calls g s0_0 x1001_3 x1002_3 (x5_3.length : Int) t530 t531 t532 w0 _ ?side1 ?side2 A31.out).mono ?_
          (case side1 => exact Z3 HI0.out)
          (case side2 => exact Z7)
          rintro e w38 ⟨rfl, hi, hb, hk⟩
          have HS0_ := keep_cell hk (hHeld) (Z61)
          refine ⟨_, rfl, ?_⟩
          have n0_ := Aside0.mk (Kd.R_mono (Kd.R_keep (IsS69.apart (show IsS69 w0 _ g s0_0 x1001_3 x1002_3 from Z3 HI0.out) (Z1 HO_4.out) (by decide)) hk (fun _ h => h.2)) (fun _ h => h.1))
          have n1_ := Aside0.mk (Kd.R_mono (Kd.R_keep (IsS69.apart (show IsS69 w0 _ g s0_0 x1001_3 x1002_3 from Z3 HI0.out) (Z1 HO_5.out) (by decide)) hk (fun _ h => h.2)) (fun _ h => h.1))
          have n2_ := Aside0.mk (KeepBut.trans (Z6) hk (.inl rfl))
          have n3_ := Aside0.mk (hb)
          have n4_ := Aside0.mk (hi)
          clear HO_4
          clear HO_5
          clear HK
          clear HB
          clear HI0
          have HO_4 := n0_
          have HO_5 := n1_
          have HK := n2_
          have HB := n3_
          have HI0 := n4_
          clear n0_ n1_ n2_ n3_ n4_
          (try clear hb)
          (try clear hb2)
          (try clear hk)
          (try clear hi)
          refine hK.out _ _ (HS0_) (fun hHeld => ?_)
          clear hK K
          refine norm_ (a' := ?_) ?_ ?_
          rotate_left
          ·show Act.put _ (some 40) _ = _
           simp only [Act.put, List.setIfInBounds_toArray, List.set_cons_zero, List.set_cons_succ, i64_w, i32_w]
           rfl
          refine one_ (i := 10) (N := some 46) (M_ 12 7) rfl rfl (one_of HT_.out (by kernel_rfl)) (by decide) (fun K hK => ?_)
          refine goes_ Try.func45 (by kernel_rfl) rfl #[.pointer (some ⟨g, 0, none⟩), .int .i64 ((rdOf ByteArray.empty x5_3 0).size : Int)] (by rfl) rfl rfl (Z18) ?_
          with_reducible refine (spec_l1Cur_pick.calls g s0_0 t531 t532 ((rdOf ByteArray.empty x5_3 0).size : Int) t534 t535 t536 w0 _ ?side1 ?side2 A33.out).mono ?_
          (case side1 => exact Z3 HI0.out)
          (case side2 => exact Z7)
          rintro e w39 ⟨rfl, hi, hb, hk⟩
          have HS0_ := keep_cell hk (hHeld) (Z61)
          refine ⟨_, rfl, ?_⟩
          have n0_ := Aside0.mk (Kd.R_mono (Kd.R_keep (IsS69.apart (show IsS69 w0 _ g s0_0 t531 t532 from Z3 HI0.out) (Z1 HO_4.out) (by decide)) hk (fun _ h => h.2)) (fun _ h => h.1))
          have n1_ := Aside0.mk (Kd.R_mono (Kd.R_keep (IsS69.apart (show IsS69 w0 _ g s0_0 t531 t532 from Z3 HI0.out) (Z1 HO_5.out) (by decide)) hk (fun _ h => h.2)) (fun _ h => h.1))
          have n2_ := Aside0.mk (KeepBut.trans (Z6) hk (.inl rfl))
          have n3_ := Aside0.mk (hb)
          have n4_ := Aside0.mk (hi)
          clear HO_4
          clear HO_5
          clear HK
          clear HB
          clear HI0
          have HO_4 := n0_
          have HO_5 := n1_
          have HK := n2_
          have HB := n3_
          have HI0 := n4_
          clear n0_ n1_ n2_ n3_ n4_
          refine hK.out _ _ (HS0_) (fun hHeld => ?_)
          clear hK K
          refine norm_ (a' := ?_) ?_ ?_
          rotate_left
          ·show Act.put _ (some 46) _ = _
           simp only [Act.put, List.setIfInBounds_toArray, List.set_cons_zero, List.set_cons_succ, i64_w, i32_w]
           rfl
          refine one_ (i := 12) (N := some 48) (M_ 13 6) rfl rfl (one_of HT_.out (by kernel_rfl)) (by decide) (fun K hK => ?_)
          refine goes_ Try.func45 (by kernel_rfl) rfl #[.pointer (some ⟨g, 0, none⟩), .int .i64 2] (by rfl) rfl rfl (Z18) ?_
          with_reducible refine (spec_l1Cur_pick.calls g s0_0 t535 t536 2 t537 t538 t539 w0 _ ?side1 ?side2 A34.out).mono ?_
          (case side1 => exact Z3 HI0.out)
          (case side2 => exact Z7)
          rintro e w40 ⟨rfl, hi, hb, hk⟩
          have HS0_ := keep_cell hk (hHeld) (Z61)
          refine ⟨_, rfl, ?_⟩
          have n0_ := Aside0.mk (Kd.R_mono (Kd.R_keep (IsS69.apart (show IsS69 w0 _ g s0_0 t535 t536 from Z3 HI0.out) (Z1 HO_4.out) (by decide)) hk (fun _ h => h.2)) (fun _ h => h.1))
          have n1_ := Aside0.mk (Kd.R_mono (Kd.R_keep (IsS69.apart (show IsS69 w0 _ g s0_0 t535 t536 from Z3 HI0.out) (Z1 HO_5.out) (by decide)) hk (fun _ h => h.2)) (fun _ h => h.1))
          have n2_ := Aside0.mk (KeepBut.trans (Z6) hk (.inl rfl))
          have n3_ := Aside0.mk (hb)
          have n4_ := Aside0.mk (hi)
          clear HO_4
          clear HO_5
          clear HK
          clear HB
          clear HI0
          have HO_4 := n0_
          have HO_5 := n1_
          have HK := n2_
          have HB := n3_
          have HI0 := n4_
          clear n0_ n1_ n2_ n3_ n4_
          refine hK.out _ _ (HS0_) (fun hHeld => ?_)
          clear hK K
          refine norm_ (a' := ?_) ?_ ?_
          rotate_left
          ·show Act.put _ (some 48) _ = _
           simp only [Act.put, List.setIfInBounds_toArray, List.set_cons_zero, List.set_cons_succ, i64_w, i32_w]
           rfl
          refine pu_ 13 49 (M_ 14 5) ?_
          refine one_ (i := 14) (N := some 50) (M_ 15 4) rfl rfl (one_of HT_.out (by kernel_rfl)) (by decide) (fun K hK => ?_)
          refine goes_ Try.func8 (by kernel_rfl) rfl #[.slice (some ad533) x5_3.length co37, .int .i64 t530, .int .i64 t534, .int .i64 (wrap64 (1 + t537))] (by rfl) rfl rfl (Z18) ?_
          with_reducible refine (spec_StainScan.calls k3 _ _ x5_3 t530 t534 (wrap64 (1 + t537)) t540 t541 _ ?side1 ?side2 A35.out).mono ?_
          (case side1 => exact Z5 HO_5.out)
          (case side2 => exact (Kd.R_reads' HO_5.out).2.1)
          rintro e w41 ⟨v542, rfl, ho0, hb⟩
          have HS0_ := (hb.cell (World.block_lt_of_cell? _ _ (hHeld))).trans (hHeld)
          refine ⟨_, rfl, ?_⟩
          have n0_ := Aside0.mk (Kd.R_elder' (Z1 HO_4.out) (Kd.R_base ho0) hb)
          have n1_ := Aside0.mk (Kd.R_elder' (Z1 HO_5.out) (Kd.R_base ho0) hb)
          have n2_ := Aside0.mk (Kd.R_lower (Kd.R_new' (Kd.R_new' ho0 (Kd.R_lt (Z1 HO_4.out))) (Kd.R_lt (Z1 HO_5.out))) (keep_size (w := w) (g := g) (row := none) (Z6)))
          have n3_ := Aside0.mk (IsS69.below (Z3 HI0.out) hb)
          have n4_ := Aside0.mk (KeepBut.trans (Z6) (KeepBut.of_below hb g none) (.inl rfl))
          have n5_ := Aside0.mk (below_step (Z7) hb)
          clear HO_4
          clear HO_5
          clear HI0
          clear HK
          clear HB
          have HO_4 := n0_
          have HO_5 := n1_
          have HO543 := n2_
          have HI0 := n3_
          have HK := n4_
          have HB := n5_
          clear n0_ n1_ n2_ n3_ n4_ n5_
          (try clear ho0)
          refine hK.out _ _ (HS0_) (fun hHeld => ?_)
          clear hK K
          refine norm_ (a' := ?_) ?_ ?_
          rotate_left
          ·show Act.put _ (some 50) _ = _
           simp only [Act.put, List.setIfInBounds_toArray, List.set_cons_zero, List.set_cons_succ, i64_w, i32_w]
           rfl
          refine pu_ 15 35 (M_ 16 3) ?_
          refine pu_ 16 51 (M_ 17 2) ?_
          refine pu_ 17 52 (M_ 18 1) ?_
          refine pu_ 18 5 (M_ 19 0) ?_
          refine done_ (done_of HT_.out (by kernel_rfl)) ?_
          try go_wp2
          go_roundg k3
          case measure => have := HJ2.out; have := HJ15.out; have := HK3.out; omega
          case rel => exact ⟨(t540), (wrap64 (x6_3 - 1)), (t538), (t539), (Z10), H', ⟨by have := HJ2.out; have := HJ15.out; have := HK3.out; omega⟩, ⟨Z52 HO_4.out⟩, ⟨by (with_reducible repeat (first | apply Kd.R_alloc | apply Kd.R_drewN | apply Kd.R_drew)); exact Kd.R_mono HO543.out (fun _ hk => hk.1.2)⟩, ⟨Z3 HI0.out⟩, ⟨Z6⟩, ⟨Z7⟩⟩
         rw [if_neg c32] at H
         exact absurd H (by simp)
        rw [if_neg c30] at H
        have c30b0 : decide (0 < x6_3) = false := decide_eq_false c30
        clear c30
        replace H := Option.bind_eq_some_iff.mp H
        obtain ⟨⟨t544, t545, t546⟩, A420, H⟩ := H
        (try dsimp only at H)
        have A42 := Aside0.mk A420
        clear A420
        by_cases c43 : t544 = true
        ·subst c43
         rw [if_pos rfl] at H
         obtain ⟨y547, hy547⟩ : ∃ y_ : List ByteArray, y_ = (([(⟨#[46]⟩ : ByteArray), (⟨#[111]⟩ : ByteArray)] : List ByteArray)) := ⟨_, rfl⟩
         replace H : ((spec_l1Cur_of.f s0_0 t545 t546 y547).bind fun bt550 => ((spec_scFill.f k3 x5_3 bt550.1).bind fun t553 => (some (t498, t553, bt550.2.1, bt550.2.2)))) = some (r1, r2, r3, r4) := by first | (rw [hy547]; with_reducible exact H) | (have H2_ := (Option.bind_some _ _).symm.trans H; rw [hy547]; with_reducible exact H2_) | (have H2_ := (Option.bind_some _ _).symm.trans H; with_reducible exact H2_) | with_reducible exact H | (rw [hy547]; exact H) | exact H
         have Ny547 := Aside0.mk hy547
         clear hy547
         replace H := Option.bind_eq_some_iff.mp H
         obtain ⟨⟨t550, t551, t552⟩, A440, H⟩ := H
         (try dsimp only at H)
         have A44 := Aside0.mk A440
         clear A440
         replace H := Option.bind_eq_some_iff.mp H
         obtain ⟨t553, A450, H⟩ := H
         (try dsimp only at H)
         have A45 := Aside0.mk A450
         clear A450
         simp only [Option.some.injEq, Prod.mk.injEq] at H
         obtain ⟨rfl, rfl, rfl, rfl⟩ := H
         go_wp2_with (first | ((with_reducible refine gate_callee (f := 79) rfl ?_); refine gl_ 54 Try.func79 #[.pointer (some ⟨g, 0, none⟩), .int .i64 4] ?_; (with_reducible refine (spec_l1Cur_one.calls g s0_0 x1001_3 x1002_3 4 true t545 t546 w0 _ ?_ ?_ A42.out).mono ?_); exact Z3 HI0.out; exact Z7; rintro e w46 ⟨rfl, hi, hb, hk⟩; refine ⟨_, rfl, ?_⟩; refine k5_ (Kd.R_mono (Kd.R_keep (IsS69.apart (show IsS69 w0 _ g s0_0 x1001_3 x1002_3 from Z3 HI0.out) (Z1 HO_4.out) (by decide)) hk (fun _ h => h.2)) (fun _ h => h.1)) (Kd.R_mono (Kd.R_keep (IsS69.apart (show IsS69 w0 _ g s0_0 x1001_3 x1002_3 from Z3 HI0.out) (Z1 HO_5.out) (by decide)) hk (fun _ h => h.2)) (fun _ h => h.1)) (KeepBut.trans (Z6) hk (.inl rfl)) (hb) (hi) ?_; clear HO_4 HO_5 HK HB HI0; intro HO_4 HO_5 HK HB HI0; (try clear hb hk hi)) | ((with_reducible refine gate_dst (N := 57) rfl ?_); refine Kd.R_lit Kd.string _ 9 ?hg (N := 57) ?hd (xs := ([(⟨#[46]⟩ : ByteArray), (⟨#[111]⟩ : ByteArray)] : List ByteArray)) (inner := [.string (⟨#[46]⟩ : ByteArray), .string (⟨#[111]⟩ : ByteArray)]) (ok := fun _ => True) (okp := fun _ => True) ?hr ?hp (fun _ hk => hk) trivial (Below.refl _ _) (Nat.le_refl _) (by simp) ?_; (case hd => rfl); (case hg => rfl); (case hr => exact Z44); (case hp => exact (Reps.one (show Kd.M Kd.string _ _ _ (⟨#[46]⟩ : ByteArray) [.string (⟨#[46]⟩ : ByteArray)] from rfl) (Reps.one (show Kd.M Kd.string _ _ _ (⟨#[111]⟩ : ByteArray) [.string (⟨#[111]⟩ : ByteArray)] from rfl) (Reps.none _ _)))); intro v548 w47 ho48 hb hg_ hnew_; clear hg_ hnew_; (first | rw [← Ny547.out] at ho48 | (simp only [Int.reduceToNat] at ho48; rw [← Ny547.out] at ho48)); refine k6_ (Kd.R_elder' (Z1 HO_4.out) (Kd.R_base ho48) hb) (Kd.R_elder' (Z1 HO_5.out) (Kd.R_base ho48) hb) (Kd.R_lower (Kd.R_new' (Kd.R_new' ho48 (Kd.R_lt (Z1 HO_4.out))) (Kd.R_lt (Z1 HO_5.out))) (keep_size (w := w) (g := g) (row := none) (Z6))) (IsS69.below (Z3 HI0.out) hb) (KeepBut.trans (Z6) (KeepBut.of_below hb g none) (.inl rfl)) (below_step (Z7) hb) ?_; clear HO_4 HO_5 HI0 HK HB; intro HO_4 HO_5 HO549 HI0 HK HB; clear hb ho48; obtain ⟨Ao49, co49, eo49⟩ := Kd.R_slice HO549.out; subst eo49) | ((with_reducible refine gate_callee (f := 118) rfl ?_); refine gl_ 58 Try.func118 #[.pointer (some ⟨g, 0, none⟩), .slice Ao49 y547.length co49] ?_; (with_reducible refine (spec_l1Cur_of.calls g s0_0 t545 t546 _ _ y547 t550 t551 t552 w0 _ ?_ ?_ ?_ ?_ ?_ A44.out).mono ?_); exact Z3 HI0.out; exact Z7; exact Z5 HO549.out; exact (Kd.R_reads' HO549.out).2.1; exact far_slice (IsS69.own_ne HI0.out HO549.out (by decide)); rintro e w50 ⟨rfl, hi, hb, hk⟩; refine ⟨_, rfl, ?_⟩; refine k6_ (Kd.R_mono (Kd.R_keep (IsS69.apart (show IsS69 w0 _ g s0_0 t545 t546 from Z3 HI0.out) (Z1 HO_4.out) (by decide)) hk (fun _ h => h.2)) (fun _ h => h.1)) (Kd.R_mono (Kd.R_keep (IsS69.apart (show IsS69 w0 _ g s0_0 t545 t546 from Z3 HI0.out) (Z1 HO_5.out) (by decide)) hk (fun _ h => h.2)) (fun _ h => h.1)) (Kd.R_mono (Kd.R_keep (IsS69.apart (show IsS69 w0 _ g s0_0 t545 t546 from Z3 HI0.out) (Z1 HO549.out) (by decide)) hk (fun _ h => h.2)) (fun _ h => h.1)) (KeepBut.trans (Z6) hk (.inl rfl)) (hb) (hi) ?_; clear HO_4 HO_5 HO549 HK HB HI0; intro HO_4 HO_5 HO549 HK HB HI0; (try clear hb hk hi); obtain ⟨Ao51, co51, eo51⟩ := Kd.R_slice HO_5.out; subst eo51) | ((with_reducible refine gate_callee (f := 117) rfl ?_); refine gl_ 59 Try.func117 #[.slice Ao51 x5_3.length co51, .string t550] ?_; (with_reducible refine (spec_scFill.calls k3 _ _ x5_3 t550 t553 _ ?_ ?_ A45.out).mono ?_); exact Z5 HO_5.out; exact (Kd.R_reads' HO_5.out).2.1; rintro e w52 ⟨v554, rfl, ho0, hb⟩; refine ⟨_, rfl, ?_⟩; refine k7_ (Kd.R_elder' (Z1 HO_4.out) (Kd.R_base ho0) hb) (Kd.R_elder' (Z1 HO_5.out) (Kd.R_base ho0) hb) (Kd.R_elder' (Z1 HO549.out) (Kd.R_base ho0) hb) (Kd.R_lower (Kd.R_new' (Kd.R_new' (Kd.R_new' ho0 (Kd.R_lt (Z1 HO_4.out))) (Kd.R_lt (Z1 HO_5.out))) (Kd.R_lt (Z1 HO549.out))) (keep_size (w := w) (g := g) (row := none) (Z6))) (IsS69.below (Z3 HI0.out) hb) (KeepBut.trans (Z6) (KeepBut.of_below hb g none) (.inl rfl)) (below_step (Z7) hb) ?_; clear HO_4 HO_5 HO549 HI0 HK HB; intro HO_4 HO_5 HO549 HO555 HI0 HK HB; (try clear hb ho0)))
         go_ret2
         exact ⟨_, _, Z11, Z52 HO_4.out, by (with_reducible repeat (first | apply Kd.R_alloc | apply Kd.R_drewN | apply Kd.R_drew)); exact Kd.R_mono HO555.out (fun _ hk => hk.1.1.2), Z3 HI0.out, Z7, Z6⟩
        replace c43 := Bool.eq_false_iff.mpr c43
        subst c43
        rw [if_neg (show ¬ (false = true) by decide)] at H
        simp only [Option.some.injEq, Prod.mk.injEq] at H
        obtain ⟨rfl, rfl, rfl, rfl⟩ := H
        go_wp2_with (first | ((with_reducible refine gate_callee (f := 79) rfl ?_); refine gl_ 54 Try.func79 #[.pointer (some ⟨g, 0, none⟩), .int .i64 4] ?_; (with_reducible refine (spec_l1Cur_one.calls g s0_0 x1001_3 x1002_3 4 false t545 t546 w0 _ ?_ ?_ A42.out).mono ?_); exact Z3 HI0.out; exact Z7; rintro e w53 ⟨rfl, hi, hb, hk⟩; refine ⟨_, rfl, ?_⟩; refine k5_ (Kd.R_mono (Kd.R_keep (IsS69.apart (show IsS69 w0 _ g s0_0 x1001_3 x1002_3 from Z3 HI0.out) (Z1 HO_4.out) (by decide)) hk (fun _ h => h.2)) (fun _ h => h.1)) (Kd.R_mono (Kd.R_keep (IsS69.apart (show IsS69 w0 _ g s0_0 x1001_3 x1002_3 from Z3 HI0.out) (Z1 HO_5.out) (by decide)) hk (fun _ h => h.2)) (fun _ h => h.1)) (KeepBut.trans (Z6) hk (.inl rfl)) (hb) (hi) ?_; clear HO_4 HO_5 HK HB HI0; intro HO_4 HO_5 HK HB HI0; (try clear hb hk hi)))
        go_ret2
        exact ⟨_, _, Z11, Z1 HO_4.out, Z1 HO_5.out, Z3 HI0.out, Z7, Z6⟩
   rw [if_neg c14] at H
   exact absurd H (by simp)

/-! ### spec_DrawAgreeScans: function 58 -/
def spec_DrawAgreeScans.f (k : Nat) (l0 : List Int) : Option (List ByteArray × List ByteArray) := (spec_l1Cur_scansTwo.f k l0 0 0).bind fun bt557 => (some (bt557.1, bt557.2.1))
theorem spec_DrawAgreeScans.mono : ∀ a0 k, LeO (spec_DrawAgreeScans.f k a0) (spec_DrawAgreeScans.f (k + 1) a0) := by
 intro a0 k
 unfold spec_DrawAgreeScans.f
 exact mo14_
set_option maxHeartbeats 8000000 in
set_option maxRecDepth 100000 in
theorem spec_DrawAgreeScans.calls (k : Nat) (A0 : Option Addr) (c0 : Nat) (l0 : List Int) (r1 : List ByteArray) (r2 : List ByteArray) (w : World) (hr0 : Kd.C (Kd.int .u8) w A0 l0.length l0) (hc0 : l0.length ≤ c0) (h : spec_DrawAgreeScans.f k l0 = some (r1, r2)) :
  Calls Try.prog 58 #[.slice A0 l0.length c0] w fun e w' => ∃ v0_ v1_ : Value, e = .returned (.tuple #[v0_, v1_]) ∧ Kd.R Kd.string 9 w' w.heap.size (fun k_ => some k_ ≠ (v1_ : Value).ownBlock) v0_ r1 ∧ Kd.R Kd.string 9 w' w.heap.size (fun k_ => some k_ ≠ (v0_ : Value).ownBlock) v1_ r2 ∧ Below w.heap.size w w' := by
 have hu69 := Try.underlying69
 have HR0 := Aside0.mk hr0
 have HC0 := Aside0.mk hc0
 clear hr0 hc0
 have HB := Aside0.mk (Below.refl w.heap.size w)
 have H : ((spec_l1Cur_scansTwo.f k l0 0 0).bind fun bt557 => (some (bt557.1, bt557.2.1))) = some (r1, r2) := h
 clear h
 replace H := Option.bind_eq_some_iff.mp H
 obtain ⟨⟨t557, t560, t563, t564⟩, A20, H⟩ := H
 replace H : (some (t557, t560)) = some (r1, r2) := H
 have A2 := Aside0.mk A20
 clear A20
 simp only [Option.some.injEq, Prod.mk.injEq] at H
 obtain ⟨rfl, rfl⟩ := H
 go_enter Try.func58, Try.ntmps58
 go_wp2_with (first | ((with_reducible refine gate_dst (N := 7) rfl ?_); refine bv_ 7 69 #[.slice A0 l0.length c0, .int .i64 0, .int .u64 0] ?_; intro gb556 hg w3 hbox hb; refine k4_ (below_step (Z2) hb) ((show IsS69 w w3 gb556 l0 0 0 from ⟨_, _, hbox, (Z34), HR0.out⟩)) ((Z34 : w.heap.size ≤ gb556)) ((Z34 : w.heap.size ≤ gb556)) ?_; clear HB; intro HB HI556 GW556 GE556; clear hb hbox hg) | ((with_reducible refine gate_callee (f := 93) rfl ?_); refine gl_ 9 Try.func93 #[.pointer (some ⟨gb556, 0, none⟩)] ?_; (with_reducible refine (spec_l1Cur_scansTwo.calls k gb556 l0 0 0 t557 t560 t563 t564 w _ ?_ ?_ A2.out).mono ?_); exact Z3 HI556.out; exact Z62; rintro e w4 ⟨v558, v561, rfl, ho0, ho1, hi, hb, hk⟩; refine ⟨_, rfl, ?_⟩; refine k4_ (Kd.R_lower ho0 (below_size (Z62))) (Kd.R_lower ho1 (below_size (Z62))) (hb) (hi) ?_; clear HB HI556; intro HO559 HO562 HB HI556; (try clear hb hk hi ho0 ho1)))
 go_ret2
 exact ⟨_, _, Z11, Z1 HO559.out, Z1 HO562.out, Z62⟩

/-! ### spec_DrawMeetScans: function 13 -/
def spec_DrawMeetScans.f (k : Nat) (l0 : List Int) : Option (List ByteArray × List ByteArray) := (spec_DrawAgreeScans.f k l0).bind fun bt565 => (some (bt565.1, bt565.2))
theorem spec_DrawMeetScans.mono : ∀ a0 k, LeO (spec_DrawMeetScans.f k a0) (spec_DrawMeetScans.f (k + 1) a0) := by
 intro a0 k
 unfold spec_DrawMeetScans.f
 exact mo14_
set_option maxHeartbeats 8000000 in
set_option maxRecDepth 100000 in
theorem spec_DrawMeetScans.calls (k : Nat) (A0 : Option Addr) (c0 : Nat) (l0 : List Int) (r1 : List ByteArray) (r2 : List ByteArray) (w : World) (hr0 : Kd.C (Kd.int .u8) w A0 l0.length l0) (hc0 : l0.length ≤ c0) (h : spec_DrawMeetScans.f k l0 = some (r1, r2)) :
  Calls Try.prog 13 #[.slice A0 l0.length c0] w fun e w' => ∃ v0_ v1_ : Value, e = .returned (.tuple #[v0_, v1_]) ∧ Kd.R Kd.string 9 w' w.heap.size (fun k_ => some k_ ≠ (v1_ : Value).ownBlock) v0_ r1 ∧ Kd.R Kd.string 9 w' w.heap.size (fun k_ => some k_ ≠ (v0_ : Value).ownBlock) v1_ r2 ∧ Below w.heap.size w w' := by
 have HR0 := Aside0.mk hr0
 have HC0 := Aside0.mk hc0
 clear hr0 hc0
 have HB := Aside0.mk (Below.refl w.heap.size w)
 have H : ((spec_DrawAgreeScans.f k l0).bind fun bt565 => (some (bt565.1, bt565.2))) = some (r1, r2) := h
 clear h
 replace H := Option.bind_eq_some_iff.mp H
 obtain ⟨⟨t565, t566⟩, A20, H⟩ := H
 replace H : (some (t565, t566)) = some (r1, r2) := H
 have A2 := Aside0.mk A20
 clear A20
 simp only [Option.some.injEq, Prod.mk.injEq] at H
 obtain ⟨rfl, rfl⟩ := H
 go_enter Try.func13, Try.ntmps13
 go_wp2_with (first | ((with_reducible refine gate_callee (f := 58) rfl ?_); refine gl_ 5 Try.func58 #[.slice A0 l0.length c0] ?_; (with_reducible refine (spec_DrawAgreeScans.calls k _ _ l0 t565 t566 _ ?_ ?_ A2.out).mono ?_); exact Z9 HR0.out; exact HC0.out; rintro e w3 ⟨v567, v569, rfl, ho0, ho1, hb⟩; refine ⟨_, rfl, ?_⟩; refine k3_ (Kd.R_lower ho0 (below_size (Z2))) (Kd.R_lower ho1 (below_size (Z2))) (below_step (Z2) hb) ?_; clear HB; intro HO568 HO570 HB; (try clear hb ho0 ho1)))
 go_ret2
 exact ⟨_, _, Z11, Z1 HO568.out, Z1 HO570.out, Z2⟩

/-! ### spec_scTwo: function 59 -/
def spec_scTwo.f (k : Nat) (l0 : List ByteArray) (l1 : List ByteArray) : Option (Bool) := (spec_scGood.f k l0).bind fun t571 => (if t571 = true then ((spec_scGood.f k l1).bind fun t572 => (if t572 = true then (if (l0.length : Int) = (l1.length : Int) then (if 0 < (l0.length : Int) then (if 0 < (l1.length : Int) then (some (((rdOf ByteArray.empty l0 0).size : Int) == ((rdOf ByteArray.empty l1 0).size : Int))) else (none)) else (none)) else (some false)) else (some false))) else (some false))
theorem spec_scTwo.mono : ∀ a0 a1 k, LeO (spec_scTwo.f k a0 a1) (spec_scTwo.f (k + 1) a0 a1) := by
 intro a0 a1 k
 unfold spec_scTwo.f
 exact mo14_
set_option maxHeartbeats 8000000 in
set_option maxRecDepth 100000 in
theorem spec_scTwo.calls (k : Nat) (A0 : Option Addr) (c0 : Nat) (l0 : List ByteArray) (A1 : Option Addr) (c1 : Nat) (l1 : List ByteArray) (r : Bool) (w : World) (hr0 : Kd.C Kd.string w A0 l0.length l0) (hc0 : l0.length ≤ c0) (hr1 : Kd.C Kd.string w A1 l1.length l1) (hc1 : l1.length ≤ c1) (h : spec_scTwo.f k l0 l1 = some r) :
  Calls Try.prog 59 #[.slice A0 l0.length c0, .slice A1 l1.length c1] w fun e w' => e = .returned (.bool r) ∧ Drawn0 w w' := by
 have HR0 := Aside0.mk hr0
 have HC0 := Aside0.mk hc0
 clear hr0 hc0
 have HR1 := Aside0.mk hr1
 have HC1 := Aside0.mk hc1
 clear hr1 hc1
 have H : ((spec_scGood.f k l0).bind fun t571 => (if t571 = true then ((spec_scGood.f k l1).bind fun t572 => (if t572 = true then (if (l0.length : Int) = (l1.length : Int) then (if 0 < (l0.length : Int) then (if 0 < (l1.length : Int) then (some (((rdOf ByteArray.empty l0 0).size : Int) == ((rdOf ByteArray.empty l1 0).size : Int))) else (none)) else (none)) else (some false)) else (some false))) else (some false))) = some r := h
 clear h
 replace H := Option.bind_eq_some_iff.mp H
 obtain ⟨t571, A30, H⟩ := H
 (try dsimp only at H)
 have A3 := Aside0.mk A30
 clear A30
 by_cases c4 : t571 = true
 ·subst c4
  rw [if_pos rfl] at H
  replace H := Option.bind_eq_some_iff.mp H
  obtain ⟨t572, A50, H⟩ := H
  (try dsimp only at H)
  have A5 := Aside0.mk A50
  clear A50
  by_cases c6 : t572 = true
  ·subst c6
   rw [if_pos rfl] at H
   by_cases c7 : (l0.length : Int) = (l1.length : Int)
   ·rw [if_pos c7] at H
    have c7b0 : ((l0.length : Int) == (l1.length : Int)) = true := beq_iff_eq.mpr c7
    have c7b1 : ((l0.length : Int) != (l1.length : Int)) = false := bne_eq_false_iff_eq.mpr c7
    have c7b2 : (l0.length == l1.length) = true := by first | simpa using c7 | (simp at c7 ⊢; omega)
    clear c7
    by_cases c8 : 0 < (l0.length : Int)
    ·rw [if_pos c8] at H
     have c8b0 : decide (0 < (l0.length : Int)) = true := decide_eq_true c8
     have c8b1 : decide (0 < l0.length) = true := decide_eq_true (by omega)
     clear c8
     by_cases c9 : 0 < (l1.length : Int)
     ·rw [if_pos c9] at H
      have c9b0 : decide (0 < (l1.length : Int)) = true := decide_eq_true c9
      have c9b1 : decide (0 < l1.length) = true := decide_eq_true (by omega)
      clear c9
      obtain rfl := Option.some.inj H
      go_enter Try.func59, Try.ntmps59
      go_wp2_with (first | (go_at_call 51; (with_reducible refine (spec_scGood.calls k _ _ l0 true _ ?_ ?_ A3.out).mono ?_); exact Z9 HR0.out; exact HC0.out; rintro e w' ⟨rfl, ⟨nd, rfl⟩⟩; (try first | exact ⟨rfl, _, World.drewN_drewN _ _ _⟩ | exact ⟨rfl, _, Eq.trans (World.drewN_drewN _ _ _) (congrArg (World.drewN _) (Nat.add_assoc _ _ _))⟩)) | (go_at_call 51; (with_reducible refine (spec_scGood.calls k _ _ l1 true _ ?_ ?_ A5.out).mono ?_); exact Z9 HR1.out; exact HC1.out; rintro e w' ⟨rfl, ⟨nd, rfl⟩⟩; (try first | exact ⟨rfl, _, World.drewN_drewN _ _ _⟩ | exact ⟨rfl, _, Eq.trans (World.drewN_drewN _ _ _) (congrArg (World.drewN _) (Nat.add_assoc _ _ _))⟩); have p573 : 0 ≤ (0 : Int) := (by omega); have q573 : 0 < (l0.length : Int) := of_decide_eq_true (Z8); obtain ⟨ad573, e573, hx573_0⟩ := Kd.at_string HR0.out 0 p573 q573; cases e573; have qi573 : (0 < l0.length) = True := eq_true (by omega); (try rw [show ((0 : Int)).toNat = 0 from rfl] at hx573_0); (try rw [Addr.add_zero'] at hx573_0); replace p573 := eq_true p573; replace q573 := eq_true q573; have p574 : 0 ≤ (0 : Int) := (by omega); have q574 : 0 < (l1.length : Int) := of_decide_eq_true (Z8); obtain ⟨ad574, e574, hx574_0⟩ := Kd.at_string HR1.out 0 p574 q574; cases e574; have qi574 : (0 < l1.length) = True := eq_true (by omega); (try rw [show ((0 : Int)).toNat = 0 from rfl] at hx574_0); (try rw [Addr.add_zero'] at hx574_0); replace p574 := eq_true p574; replace q574 := eq_true q574))
      repeat (go_quiet (first | (go_at_call 51; (with_reducible refine (spec_scGood.calls k _ _ l0 true _ ?_ ?_ A3.out).mono ?_); exact Z9 HR0.out; exact HC0.out; rintro e w' ⟨rfl, ⟨nd, rfl⟩⟩; (try first | exact ⟨rfl, _, World.drewN_drewN _ _ _⟩ | exact ⟨rfl, _, Eq.trans (World.drewN_drewN _ _ _) (congrArg (World.drewN _) (Nat.add_assoc _ _ _))⟩)) | (go_at_call 51; (with_reducible refine (spec_scGood.calls k _ _ l1 true _ ?_ ?_ A5.out).mono ?_); exact Z9 HR1.out; exact HC1.out; rintro e w' ⟨rfl, ⟨nd, rfl⟩⟩; (try first | exact ⟨rfl, _, World.drewN_drewN _ _ _⟩ | exact ⟨rfl, _, Eq.trans (World.drewN_drewN _ _ _) (congrArg (World.drewN _) (Nat.add_assoc _ _ _))⟩); have p573 : 0 ≤ (0 : Int) := (by omega); have q573 : 0 < (l0.length : Int) := of_decide_eq_true (Z8); obtain ⟨ad573, e573, hx573_0⟩ := Kd.at_string HR0.out 0 p573 q573; cases e573; have qi573 : (0 < l0.length) = True := eq_true (by omega); (try rw [show ((0 : Int)).toNat = 0 from rfl] at hx573_0); (try rw [Addr.add_zero'] at hx573_0); replace p573 := eq_true p573; replace q573 := eq_true q573; have p574 : 0 ≤ (0 : Int) := (by omega); have q574 : 0 < (l1.length : Int) := of_decide_eq_true (Z8); obtain ⟨ad574, e574, hx574_0⟩ := Kd.at_string HR1.out 0 p574 q574; cases e574; have qi574 : (0 < l1.length) = True := eq_true (by omega); (try rw [show ((0 : Int)).toNat = 0 from rfl] at hx574_0); (try rw [Addr.add_zero'] at hx574_0); replace p574 := eq_true p574; replace q574 := eq_true q574)); try go_wp2_with (first | (go_at_call 51; (with_reducible refine (spec_scGood.calls k _ _ l0 true _ ?_ ?_ A3.out).mono ?_); exact Z9 HR0.out; exact HC0.out; rintro e w' ⟨rfl, ⟨nd, rfl⟩⟩; (try first | exact ⟨rfl, _, World.drewN_drewN _ _ _⟩ | exact ⟨rfl, _, Eq.trans (World.drewN_drewN _ _ _) (congrArg (World.drewN _) (Nat.add_assoc _ _ _))⟩)) | (go_at_call 51; (with_reducible refine (spec_scGood.calls k _ _ l1 true _ ?_ ?_ A5.out).mono ?_); exact Z9 HR1.out; exact HC1.out; rintro e w' ⟨rfl, ⟨nd, rfl⟩⟩; (try first | exact ⟨rfl, _, World.drewN_drewN _ _ _⟩ | exact ⟨rfl, _, Eq.trans (World.drewN_drewN _ _ _) (congrArg (World.drewN _) (Nat.add_assoc _ _ _))⟩); have p573 : 0 ≤ (0 : Int) := (by omega); have q573 : 0 < (l0.length : Int) := of_decide_eq_true (Z8); obtain ⟨ad573, e573, hx573_0⟩ := Kd.at_string HR0.out 0 p573 q573; cases e573; have qi573 : (0 < l0.length) = True := eq_true (by omega); (try rw [show ((0 : Int)).toNat = 0 from rfl] at hx573_0); (try rw [Addr.add_zero'] at hx573_0); replace p573 := eq_true p573; replace q573 := eq_true q573; have p574 : 0 ≤ (0 : Int) := (by omega); have q574 : 0 < (l1.length : Int) := of_decide_eq_true (Z8); obtain ⟨ad574, e574, hx574_0⟩ := Kd.at_string HR1.out 0 p574 q574; cases e574; have qi574 : (0 < l1.length) = True := eq_true (by omega); (try rw [show ((0 : Int)).toNat = 0 from rfl] at hx574_0); (try rw [Addr.add_zero'] at hx574_0); replace p574 := eq_true p574; replace q574 := eq_true q574)))
      go_ret
      exact ⟨Z10, Z17⟩
     rw [if_neg c9] at H
     exact absurd H (by simp)
    rw [if_neg c8] at H
    exact absurd H (by simp)
   rw [if_neg c7] at H
   have c7b0 : ((l0.length : Int) == (l1.length : Int)) = false := beq_eq_false_iff_ne.mpr c7
   have c7b1 : ((l0.length : Int) != (l1.length : Int)) = true := bne_iff_ne.mpr c7
   have c7b2 : (l0.length == l1.length) = false := by first | simpa using c7 | (simp at c7 ⊢; omega)
   obtain rfl := Option.some.inj H
   go_enter Try.func59, Try.ntmps59
   go_wp2_with (first | (go_at_call 51; (with_reducible refine (spec_scGood.calls k _ _ l0 true _ ?_ ?_ A3.out).mono ?_); exact Z9 HR0.out; exact HC0.out; rintro e w' ⟨rfl, ⟨nd, rfl⟩⟩; (try first | exact ⟨rfl, _, World.drewN_drewN _ _ _⟩ | exact ⟨rfl, _, Eq.trans (World.drewN_drewN _ _ _) (congrArg (World.drewN _) (Nat.add_assoc _ _ _))⟩)) | (go_at_call 51; (with_reducible refine (spec_scGood.calls k _ _ l1 true _ ?_ ?_ A5.out).mono ?_); exact Z9 HR1.out; exact HC1.out; rintro e w' ⟨rfl, ⟨nd, rfl⟩⟩; (try first | exact ⟨rfl, _, World.drewN_drewN _ _ _⟩ | exact ⟨rfl, _, Eq.trans (World.drewN_drewN _ _ _) (congrArg (World.drewN _) (Nat.add_assoc _ _ _))⟩)))
   repeat (go_quiet (first | (go_at_call 51; (with_reducible refine (spec_scGood.calls k _ _ l0 true _ ?_ ?_ A3.out).mono ?_); exact Z9 HR0.out; exact HC0.out; rintro e w' ⟨rfl, ⟨nd, rfl⟩⟩; (try first | exact ⟨rfl, _, World.drewN_drewN _ _ _⟩ | exact ⟨rfl, _, Eq.trans (World.drewN_drewN _ _ _) (congrArg (World.drewN _) (Nat.add_assoc _ _ _))⟩)) | (go_at_call 51; (with_reducible refine (spec_scGood.calls k _ _ l1 true _ ?_ ?_ A5.out).mono ?_); exact Z9 HR1.out; exact HC1.out; rintro e w' ⟨rfl, ⟨nd, rfl⟩⟩; (try first | exact ⟨rfl, _, World.drewN_drewN _ _ _⟩ | exact ⟨rfl, _, Eq.trans (World.drewN_drewN _ _ _) (congrArg (World.drewN _) (Nat.add_assoc _ _ _))⟩))); try go_wp2_with (first | (go_at_call 51; (with_reducible refine (spec_scGood.calls k _ _ l0 true _ ?_ ?_ A3.out).mono ?_); exact Z9 HR0.out; exact HC0.out; rintro e w' ⟨rfl, ⟨nd, rfl⟩⟩; (try first | exact ⟨rfl, _, World.drewN_drewN _ _ _⟩ | exact ⟨rfl, _, Eq.trans (World.drewN_drewN _ _ _) (congrArg (World.drewN _) (Nat.add_assoc _ _ _))⟩)) | (go_at_call 51; (with_reducible refine (spec_scGood.calls k _ _ l1 true _ ?_ ?_ A5.out).mono ?_); exact Z9 HR1.out; exact HC1.out; rintro e w' ⟨rfl, ⟨nd, rfl⟩⟩; (try first | exact ⟨rfl, _, World.drewN_drewN _ _ _⟩ | exact ⟨rfl, _, Eq.trans (World.drewN_drewN _ _ _) (congrArg (World.drewN _) (Nat.add_assoc _ _ _))⟩))))
   go_ret
   exact ⟨Z10, Z17⟩
  replace c6 := Bool.eq_false_iff.mpr c6
  subst c6
  rw [if_neg (show ¬ (false = true) by decide)] at H
  obtain rfl := Option.some.inj H
  go_enter Try.func59, Try.ntmps59
  go_wp2_with (first | (go_at_call 51; (with_reducible refine (spec_scGood.calls k _ _ l0 true _ ?_ ?_ A3.out).mono ?_); exact Z9 HR0.out; exact HC0.out; rintro e w' ⟨rfl, ⟨nd, rfl⟩⟩; (try first | exact ⟨rfl, _, World.drewN_drewN _ _ _⟩ | exact ⟨rfl, _, Eq.trans (World.drewN_drewN _ _ _) (congrArg (World.drewN _) (Nat.add_assoc _ _ _))⟩)) | (go_at_call 51; (with_reducible refine (spec_scGood.calls k _ _ l1 false _ ?_ ?_ A5.out).mono ?_); exact Z9 HR1.out; exact HC1.out; rintro e w' ⟨rfl, ⟨nd, rfl⟩⟩; (try first | exact ⟨rfl, _, World.drewN_drewN _ _ _⟩ | exact ⟨rfl, _, Eq.trans (World.drewN_drewN _ _ _) (congrArg (World.drewN _) (Nat.add_assoc _ _ _))⟩)))
  repeat (go_quiet (first | (go_at_call 51; (with_reducible refine (spec_scGood.calls k _ _ l0 true _ ?_ ?_ A3.out).mono ?_); exact Z9 HR0.out; exact HC0.out; rintro e w' ⟨rfl, ⟨nd, rfl⟩⟩; (try first | exact ⟨rfl, _, World.drewN_drewN _ _ _⟩ | exact ⟨rfl, _, Eq.trans (World.drewN_drewN _ _ _) (congrArg (World.drewN _) (Nat.add_assoc _ _ _))⟩)) | (go_at_call 51; (with_reducible refine (spec_scGood.calls k _ _ l1 false _ ?_ ?_ A5.out).mono ?_); exact Z9 HR1.out; exact HC1.out; rintro e w' ⟨rfl, ⟨nd, rfl⟩⟩; (try first | exact ⟨rfl, _, World.drewN_drewN _ _ _⟩ | exact ⟨rfl, _, Eq.trans (World.drewN_drewN _ _ _) (congrArg (World.drewN _) (Nat.add_assoc _ _ _))⟩))); try go_wp2_with (first | (go_at_call 51; (with_reducible refine (spec_scGood.calls k _ _ l0 true _ ?_ ?_ A3.out).mono ?_); exact Z9 HR0.out; exact HC0.out; rintro e w' ⟨rfl, ⟨nd, rfl⟩⟩; (try first | exact ⟨rfl, _, World.drewN_drewN _ _ _⟩ | exact ⟨rfl, _, Eq.trans (World.drewN_drewN _ _ _) (congrArg (World.drewN _) (Nat.add_assoc _ _ _))⟩)) | (go_at_call 51; (with_reducible refine (spec_scGood.calls k _ _ l1 false _ ?_ ?_ A5.out).mono ?_); exact Z9 HR1.out; exact HC1.out; rintro e w' ⟨rfl, ⟨nd, rfl⟩⟩; (try first | exact ⟨rfl, _, World.drewN_drewN _ _ _⟩ | exact ⟨rfl, _, Eq.trans (World.drewN_drewN _ _ _) (congrArg (World.drewN _) (Nat.add_assoc _ _ _))⟩))))
  go_ret
  exact ⟨Z10, Z17⟩
 replace c4 := Bool.eq_false_iff.mpr c4
 subst c4
 rw [if_neg (show ¬ (false = true) by decide)] at H
 obtain rfl := Option.some.inj H
 go_enter Try.func59, Try.ntmps59
 go_wp2_with (first | (go_at_call 51; (with_reducible refine (spec_scGood.calls k _ _ l0 false _ ?_ ?_ A3.out).mono ?_); exact Z9 HR0.out; exact HC0.out; rintro e w' ⟨rfl, ⟨nd, rfl⟩⟩; (try first | exact ⟨rfl, _, World.drewN_drewN _ _ _⟩ | exact ⟨rfl, _, Eq.trans (World.drewN_drewN _ _ _) (congrArg (World.drewN _) (Nat.add_assoc _ _ _))⟩)))
 repeat (go_quiet (first | (go_at_call 51; (with_reducible refine (spec_scGood.calls k _ _ l0 false _ ?_ ?_ A3.out).mono ?_); exact Z9 HR0.out; exact HC0.out; rintro e w' ⟨rfl, ⟨nd, rfl⟩⟩; (try first | exact ⟨rfl, _, World.drewN_drewN _ _ _⟩ | exact ⟨rfl, _, Eq.trans (World.drewN_drewN _ _ _) (congrArg (World.drewN _) (Nat.add_assoc _ _ _))⟩))); try go_wp2_with (first | (go_at_call 51; (with_reducible refine (spec_scGood.calls k _ _ l0 false _ ?_ ?_ A3.out).mono ?_); exact Z9 HR0.out; exact HC0.out; rintro e w' ⟨rfl, ⟨nd, rfl⟩⟩; (try first | exact ⟨rfl, _, World.drewN_drewN _ _ _⟩ | exact ⟨rfl, _, Eq.trans (World.drewN_drewN _ _ _) (congrArg (World.drewN _) (Nat.add_assoc _ _ _))⟩))))
 go_ret
 exact ⟨Z10, Z17⟩

end Go.Proofs.Ytmnnmddfmmaohaa.PFnStains
