-- written by a program of this session: the kit's print, with outer functions of the session's own (wip/ext)
import Derived.Test.YtmnnmddfmmaohaaPFnStainsx0
import Derived.Test.YtmnnmddfmmaohaaPFnStainsx1
import Derived.Test.YtmnnmddfmmaohaaPFnStainsx2
import Derived.Test.YtmnnmddfmmaohaaPFnStainsx5
namespace Go.Proofs.Ytmnnmddfmmaohaa.PFnStains
open Go.RowKit Go.Proofs.YtmnnmddfmmaohaaW.PrintWords Go.Proofs.YtmnnmddfmmaohaaW.PrintLast Go.Proofs.YtmnnmddfmmaohaaW.PrintMore
attribute [local go_sem] max2_int min2_int max_two min_two max_three min_three max_four min_four   -- for this text's walks alone
set_option linter.unusedVariables false
set_option linter.unusedSimpArgs false
theorem mo6_ {p : Prop} (h : p := by repeat' first | (with_reducible first | apply ih0 | apply ih0 | apply ih1 | apply ih1 | apply spec_l1Cur_scan.mono | apply spec_l1Cur_scan.mono | apply spec_l1Cur_sheet.mono | apply spec_l1Cur_sheet.mono | apply spec_l1Cur_spoilt.mono | apply spec_l1Cur_spoilt.mono | apply spec_scMake.mono | apply spec_scMake.mono | exact LeO.refl _ | exact LeO.none _ | refine LeO.ite ?_ ?_ | refine LeO.bind ?_ (fun _ => ?_)) | exact LeO.none _ | refine LeO.ite ?_ ?_ | refine LeO.bind ?_ (fun _ => ?_)) : p := h

/-! ### spec_l1Cur_spoilt: function 88 -/
mutual
def spec_l1Cur_spoilt.l0 : Nat → ByteArray → ByteArray → Int → List Int → Int → Int → Option (ByteArray × Int × Int)
 | 0, _, _, _, _, _, _ => none
 | k + 1, x1, x2, x7, x1000, x1001, x1002 => if x7 > 0 then (spec_l1Cur_spoilt.j1 k x1 x2 x7 (decide ((x1.size : Int) > 0)) x1000 x1001 x1002) else (spec_l1Cur_spoilt.j1 k x1 x2 x7 false x1000 x1001 x1002)
def spec_l1Cur_spoilt.j1 : Nat → ByteArray → ByteArray → Int → Bool → List Int → Int → Int → Option (ByteArray × Int × Int)
 | 0, _, _, _, _, _, _, _ => none
 | k + 1, x1, x2, x7, x19, x1000, x1001, x1002 => if x19 = true then ((spec_l1Cur_pick.f x1000 x1001 x1002 (x1.size : Int)).bind fun bt308 => ((spec_l1Cur_pick.f x1000 bt308.2.1 bt308.2.2 (x2.size : Int)).bind fun bt311 => (if 0 ≤ bt311.1 then (if bt311.1 < (x2.size : Int) then ((some (([bt x2 bt311.1] : List Int) : List Int)).bind fun y314 => ((spec_l1Cur_pick.f x1000 bt311.2.1 bt311.2.2 3).bind fun bt317 => (if bt317.1 = 0 then (if 0 ≤ bt308.1 then (if bt308.1 ≤ (x1.size : Int) then (if (x1.extract 0 (bt308.1 : Int).toNat).size + (strOfNums y314).size ≤ 9223372036854775807 then (if ((x1.extract 0 (bt308.1 : Int).toNat) ++ (strOfNums y314)).size + (x1.extract (bt308.1 : Int).toNat x1.size).size ≤ 9223372036854775807 then (spec_l1Cur_spoilt.l0 k (((x1.extract 0 (bt308.1 : Int).toNat) ++ (strOfNums y314)) ++ (x1.extract (bt308.1 : Int).toNat x1.size)) x2 (wrap64 (x7 - 1)) x1000 bt317.2.1 bt317.2.2) else (none)) else (none)) else (none)) else (none)) else (if bt317.1 = 1 then (if 0 ≤ bt308.1 then (if bt308.1 ≤ (x1.size : Int) then (if (x1.extract 0 (bt308.1 : Int).toNat).size + (strOfNums y314).size ≤ 9223372036854775807 then (if 0 ≤ (wrap64 (bt308.1 + 1)) then (if (wrap64 (bt308.1 + 1)) ≤ (x1.size : Int) then (if ((x1.extract 0 (bt308.1 : Int).toNat) ++ (strOfNums y314)).size + (x1.extract ((wrap64 (bt308.1 + 1)) : Int).toNat x1.size).size ≤ 9223372036854775807 then (spec_l1Cur_spoilt.l0 k (((x1.extract 0 (bt308.1 : Int).toNat) ++ (strOfNums y314)) ++ (x1.extract ((wrap64 (bt308.1 + 1)) : Int).toNat x1.size)) x2 (wrap64 (x7 - 1)) x1000 bt317.2.1 bt317.2.2) else (none)) else (none)) else (none)) else (none)) else (none)) else (none)) else (if 0 ≤ bt308.1 then (if bt308.1 ≤ (x1.size : Int) then (if 0 ≤ (wrap64 (bt308.1 + 1)) then (if (wrap64 (bt308.1 + 1)) ≤ (x1.size : Int) then (if (x1.extract 0 (bt308.1 : Int).toNat).size + (x1.extract ((wrap64 (bt308.1 + 1)) : Int).toNat x1.size).size ≤ 9223372036854775807 then (spec_l1Cur_spoilt.l0 k ((x1.extract 0 (bt308.1 : Int).toNat) ++ (x1.extract ((wrap64 (bt308.1 + 1)) : Int).toNat x1.size)) x2 (wrap64 (x7 - 1)) x1000 bt317.2.1 bt317.2.2) else (none)) else (none)) else (none)) else (none)) else (none)))))) else (none)) else (none)))) else (some (x1, x1001, x1002))
end
def spec_l1Cur_spoilt.f (k : Nat) (s0_0 : List Int) (s0_1 : Int) (s0_2 : Int) (a1 : ByteArray) (a2 : ByteArray) : Option (ByteArray × Int × Int) := (spec_l1Cur_pick.f s0_0 s0_1 s0_2 2).bind fun bt305 => (spec_l1Cur_spoilt.l0 k a1 a2 (wrap64 (1 + bt305.1)) s0_0 bt305.2.1 bt305.2.2)
theorem spec_l1Cur_spoilt.mono_l : ∀ k, (∀ y0 y1 y2 y3 y4 y5, LeO (spec_l1Cur_spoilt.l0 k y0 y1 y2 y3 y4 y5) (spec_l1Cur_spoilt.l0 (k + 1) y0 y1 y2 y3 y4 y5)) ∧ (∀ y0 y1 y2 y3 y4 y5 y6, LeO (spec_l1Cur_spoilt.j1 k y0 y1 y2 y3 y4 y5 y6) (spec_l1Cur_spoilt.j1 (k + 1) y0 y1 y2 y3 y4 y5 y6))
 | 0 => ⟨fun _ _ _ _ _ _ r h => by simp [spec_l1Cur_spoilt.l0] at h, fun _ _ _ _ _ _ _ r h => by simp [spec_l1Cur_spoilt.j1] at h⟩
 | k + 1 => by
  obtain ⟨ih0, ih1⟩ := spec_l1Cur_spoilt.mono_l k
  refine ⟨?_, ?_⟩
  ·intro y0 y1 y2 y3 y4 y5
   unfold spec_l1Cur_spoilt.l0
   exact mo6_
  intro y0 y1 y2 y3 y4 y5 y6
  unfold spec_l1Cur_spoilt.j1
  exact mo6_
theorem spec_l1Cur_spoilt.mono : ∀ a0 a1 a2 a3 a4 k, LeO (spec_l1Cur_spoilt.f k a0 a1 a2 a3 a4) (spec_l1Cur_spoilt.f (k + 1) a0 a1 a2 a3 a4) := by
 intro a0 a1 a2 a3 a4 k
 obtain ⟨ih0, ih1⟩ := spec_l1Cur_spoilt.mono_l k
 unfold spec_l1Cur_spoilt.f
 exact mo6_
set_option maxHeartbeats 8000000 in
set_option maxRecDepth 100000 in
theorem spec_l1Cur_spoilt.calls (k : Nat) (g : Nat) (s0_0 : List Int) (s0_1 : Int) (s0_2 : Int) (a1 : ByteArray) (a2 : ByteArray) (r1 : ByteArray) (r2 : Int) (r3 : Int) (w0 w : World) (hI : IsS69 w0 w g s0_0 s0_1 s0_2) (hB : Below w0.heap.size w0 w) (h : spec_l1Cur_spoilt.f k s0_0 s0_1 s0_2 a1 a2 = some (r1, r2, r3)) :
  Calls Try.prog 88 #[.pointer (some ⟨g, 0, none⟩), .string a1, .string a2] w fun e w' => e = .returned (.string r1) ∧ IsS69 w0 w' g s0_0 r2 r3 ∧ Below w0.heap.size w0 w' ∧ KeepBut w w' g none := by
 have HI0 := Aside0.mk hI
 have HK := Aside0.mk (KeepBut.refl w g none)
 have HL := Aside0.mk hB.size
 clear hI
 have HW0 := Aside0.mk hB.size
 have HB := Aside0.mk hB
 clear hB
 have H : ((spec_l1Cur_pick.f s0_0 s0_1 s0_2 2).bind fun bt305 => (spec_l1Cur_spoilt.l0 k a1 a2 (wrap64 (1 + bt305.1)) s0_0 bt305.2.1 bt305.2.2)) = some (r1, r2, r3) := h
 clear h
 replace H := Option.bind_eq_some_iff.mp H
 obtain ⟨⟨t305, t306, t307⟩, A40, H⟩ := H
 (try dsimp only at H)
 have A4 := Aside0.mk A40
 clear A40
 have H' := Aside0.mk H
 clear H
 go_enter Try.func88, Try.ntmps88
 go_wp2_with (first | (go_at_call 45; (with_reducible refine (spec_l1Cur_pick.calls g s0_0 s0_1 s0_2 2 t305 t306 t307 w0 _ ?_ ?_ A4.out).mono ?_); exact Z3 HI0.out; exact Z7; rintro e w5 ⟨rfl, hi, hb, hk⟩; refine k3_ (KeepBut.trans (Z6) hk (.inl rfl)) (hb) (hi) ?_; clear HK HB HI0; intro HK HB HI0; (try clear hb hk hi)))
 repeat (go_quiet (first | (go_at_call 45; (with_reducible refine (spec_l1Cur_pick.calls g s0_0 s0_1 s0_2 2 t305 t306 t307 w0 _ ?_ ?_ A4.out).mono ?_); exact Z3 HI0.out; exact Z7; rintro e w5 ⟨rfl, hi, hb, hk⟩; refine k3_ (KeepBut.trans (Z6) hk (.inl rfl)) (hb) (hi) ?_; clear HK HB HI0; intro HK HB HI0; (try clear hb hk hi))); try go_wp2_with (first | (go_at_call 45; (with_reducible refine (spec_l1Cur_pick.calls g s0_0 s0_1 s0_2 2 t305 t306 t307 w0 _ ?_ ?_ A4.out).mono ?_); exact Z3 HI0.out; exact Z7; rintro e w5 ⟨rfl, hi, hb, hk⟩; refine k3_ (KeepBut.trans (Z6) hk (.inl rfl)) (hb) (hi) ?_; clear HK HB HI0; intro HK HB HI0; (try clear hb hk hi))))
 go_loopg [1, 7] k (fun kq v1 v7 w' => ∃ (x1_1 : ByteArray) (x7_1 : Int) (x1001_1 : Int) (x1002_1 : Int), v1 = .string x1_1 ∧ v7 = .int .i64 x7_1 ∧ Aside0 (spec_l1Cur_spoilt.l0 kq x1_1 a2 x7_1 s0_0 x1001_1 x1002_1 = some (r1, r2, r3)) ∧ Aside0 (kq ≤ k) ∧ Aside0 (IsS69 w0 w' g s0_0 x1001_1 x1002_1) ∧ Aside0 (KeepBut w w' g none) ∧ Aside0 (Below w0.heap.size w0 w'))
 case atStart => exact ⟨(a1), (wrap64 (1 + t305)), (t306), (t307), (Z10), (Z10), H', ⟨Nat.le_refl _⟩, ⟨Z3 HI0.out⟩, ⟨Z6⟩, ⟨Z7⟩⟩
 case round =>
  clear H'
  (try clear p2)
  obtain ⟨x1_1, x7_1, x1001_1, x1002_1, rfl, rfl, HA, HK1, HI0, HK, HB⟩ := hrel
  cases gk with
  | zero => exact absurd HA.out (by simp [spec_l1Cur_spoilt.l0])
  | succ k1 =>
   have H := HA.out
   clear HA
   simp only [spec_l1Cur_spoilt.l0] at H
   have HC6 := Aside0.mk H
   clear H
   go_upto_region 2 with (fail)
   repeat (go_quiet (fail); go_upto_region 2 with (fail))
   go_cut [19] (fun v19 wc => ∃ (kq : Nat) (x19_5 : Bool), v19 = .bool x19_5 ∧ Aside0 (spec_l1Cur_spoilt.j1 kq x1_1 a2 x7_1 x19_5 s0_0 x1001_1 x1002_1 = some (r1, r2, r3)) ∧ Aside0 (kq ≤ k1) ∧ Aside0 (IsS69 w0 wc g s0_0 x1001_1 x1002_1) ∧ Aside0 (KeepBut w wc g none) ∧ Aside0 (Below w0.heap.size w0 wc))
   case first =>
    have H := HC6.out
    clear HC6
    by_cases c7 : x7_1 > 0
    ·rw [if_pos c7] at H
     have c7b0 : decide (0 < x7_1) = true := decide_eq_true c7
     clear c7
     (first | rw [c7b0] | (simp only [i64_w, i32_w]; rw [c7b0]) | skip)
     have H' := Aside0.mk H
     clear H
     go_wp2
     repeat (go_quiet (fail); try go_wp2)
     go_meet
     case rel => exact ⟨_, (decide ((x1_1.size : Int) > 0)), (Z10), H', ⟨Z77 HK1.out⟩, ⟨Z3 HI0.out⟩, ⟨Z6⟩, ⟨Z7⟩⟩
    rw [if_neg c7] at H
    have c7b0 : decide (0 < x7_1) = false := decide_eq_false c7
    clear c7
    (first | rw [c7b0] | (simp only [i64_w, i32_w]; rw [c7b0]) | skip)
    have H' := Aside0.mk H
    clear H
    go_wp2
    repeat (go_quiet (fail); try go_wp2)
    go_meet
    case rel => exact ⟨_, (false), (Z10), H', ⟨Z77 HK1.out⟩, ⟨Z3 HI0.out⟩, ⟨Z6⟩, ⟨Z7⟩⟩
   case rest =>
    clear HC6
    (try clear p6); (try clear c7); (try clear c7b0)
    obtain ⟨kq, x19_5, rfl, HA, HJ5, HI0, HK, HB⟩ := hcut
    cases kq with
    | zero => exact absurd HA.out (by simp [spec_l1Cur_spoilt.j1])
    | succ kj5 =>
     have H := HA.out
     clear HA
     simp only [spec_l1Cur_spoilt.j1] at H
     by_cases c8 : x19_5 = true
     ·subst c8
      rw [if_pos rfl] at H
      replace H := Option.bind_eq_some_iff.mp H
      obtain ⟨⟨t308, t309, t310⟩, A90, H⟩ := H
      (try dsimp only at H)
      have A9 := Aside0.mk A90
      clear A90
      replace H := Option.bind_eq_some_iff.mp H
      obtain ⟨⟨t311, t312, t313⟩, A100, H⟩ := H
      (try dsimp only at H)
      have A10 := Aside0.mk A100
      clear A100
      by_cases c11 : 0 ≤ t311
      ·rw [if_pos c11] at H
       have c11b0 : decide (0 ≤ t311) = true := decide_eq_true c11
       clear c11
       by_cases c12 : t311 < (a2.size : Int)
       ·rw [if_pos c12] at H
        have c12b0 : decide (t311 < (a2.size : Int)) = true := decide_eq_true c12
        clear c12
        obtain ⟨y314, hy314⟩ : ∃ y_ : List Int, y_ = (([bt a2 t311] : List Int)) := ⟨_, rfl⟩
        replace H : ((spec_l1Cur_pick.f s0_0 t312 t313 3).bind fun bt317 => (if bt317.1 = 0 then (if 0 ≤ t308 then (if t308 ≤ (x1_1.size : Int) then (if (x1_1.extract 0 (t308 : Int).toNat).size + (strOfNums y314).size ≤ 9223372036854775807 then (if ((x1_1.extract 0 (t308 : Int).toNat) ++ (strOfNums y314)).size + (x1_1.extract (t308 : Int).toNat x1_1.size).size ≤ 9223372036854775807 then (spec_l1Cur_spoilt.l0 kj5 (((x1_1.extract 0 (t308 : Int).toNat) ++ (strOfNums y314)) ++ (x1_1.extract (t308 : Int).toNat x1_1.size)) a2 (wrap64 (x7_1 - 1)) s0_0 bt317.2.1 bt317.2.2) else (none)) else (none)) else (none)) else (none)) else (if bt317.1 = 1 then (if 0 ≤ t308 then (if t308 ≤ (x1_1.size : Int) then (if (x1_1.extract 0 (t308 : Int).toNat).size + (strOfNums y314).size ≤ 9223372036854775807 then (if 0 ≤ (wrap64 (t308 + 1)) then (if (wrap64 (t308 + 1)) ≤ (x1_1.size : Int) then (if ((x1_1.extract 0 (t308 : Int).toNat) ++ (strOfNums y314)).size + (x1_1.extract ((wrap64 (t308 + 1)) : Int).toNat x1_1.size).size ≤ 9223372036854775807 then (spec_l1Cur_spoilt.l0 kj5 (((x1_1.extract 0 (t308 : Int).toNat) ++ (strOfNums y314)) ++ (x1_1.extract ((wrap64 (t308 + 1)) : Int).toNat x1_1.size)) a2 (wrap64 (x7_1 - 1)) s0_0 bt317.2.1 bt317.2.2) else (none)) else (none)) else (none)) else (none)) else (none)) else (none)) else (if 0 ≤ t308 then (if t308 ≤ (x1_1.size : Int) then (if 0 ≤ (wrap64 (t308 + 1)) then (if (wrap64 (t308 + 1)) ≤ (x1_1.size : Int) then (if (x1_1.extract 0 (t308 : Int).toNat).size + (x1_1.extract ((wrap64 (t308 + 1)) : Int).toNat x1_1.size).size ≤ 9223372036854775807 then (spec_l1Cur_spoilt.l0 kj5 ((x1_1.extract 0 (t308 : Int).toNat) ++ (x1_1.extract ((wrap64 (t308 + 1)) : Int).toNat x1_1.size)) a2 (wrap64 (x7_1 - 1)) s0_0 bt317.2.1 bt317.2.2) else (none)) else (none)) else (none)) else (none)) else (none))))) = some (r1, r2, r3) := by first | (rw [hy314]; with_reducible exact H) | (have H2_ := (Option.bind_some _ _).symm.trans H; rw [hy314]; with_reducible exact H2_) | (have H2_ := (Option.bind_some _ _).symm.trans H; with_reducible exact H2_) | with_reducible exact H | (rw [hy314]; exact H) | exact H
        have Ny314 := Aside0.mk hy314
        clear hy314
        replace H := Option.bind_eq_some_iff.mp H
        obtain ⟨⟨t317, t318, t319⟩, A140, H⟩ := H
        (try dsimp only at H)
        have A14 := Aside0.mk A140
        clear A140
        by_cases c15 : t317 = 0
        ·rw [if_pos c15] at H
         have c15b0 : (t317 == 0) = true := beq_iff_eq.mpr c15
         have c15b1 : (t317 != 0) = false := bne_eq_false_iff_eq.mpr c15
         clear c15
         by_cases c16 : 0 ≤ t308
         ·rw [if_pos c16] at H
          have c16b0 := eq_true c16
          have c16b1 : decide (0 ≤ t308) = true := decide_eq_true c16
          clear c16
          by_cases c17 : t308 ≤ (x1_1.size : Int)
          ·rw [if_pos c17] at H
           have c17b0 := eq_true c17
           have c17b1 : decide (t308 ≤ (x1_1.size : Int)) = true := decide_eq_true c17
           clear c17
           by_cases c18 : (x1_1.extract 0 (t308 : Int).toNat).size + (strOfNums y314).size ≤ 9223372036854775807
           ·rw [if_pos c18] at H
            have c18b0 := eq_true c18
            have c18b1 : decide ((x1_1.extract 0 (t308 : Int).toNat).size + (strOfNums y314).size ≤ 9223372036854775807) = true := decide_eq_true c18
            try have c18b2 : (9223372036854775807 < (x1_1.extract 0 (t308 : Int).toNat).size + (strOfNums y314).size) = False := eq_false (Nat.not_lt.2 c18)
            have c19b0 := eq_true (of_decide_eq_true (Z8) : 0 ≤ t308)
            have c20b0 := eq_true (of_decide_eq_true (Z8) : t308 ≤ (x1_1.size : Int))
            by_cases c21 : ((x1_1.extract 0 (t308 : Int).toNat) ++ (strOfNums y314)).size + (x1_1.extract (t308 : Int).toNat x1_1.size).size ≤ 9223372036854775807
            ·rw [if_pos c21] at H
             have c21b0 := eq_true c21
             have c21b1 : decide (((x1_1.extract 0 (t308 : Int).toNat) ++ (strOfNums y314)).size + (x1_1.extract (t308 : Int).toNat x1_1.size).size ≤ 9223372036854775807) = true := decide_eq_true c21
             try have c21b2 : (9223372036854775807 < ((x1_1.extract 0 (t308 : Int).toNat) ++ (strOfNums y314)).size + (x1_1.extract (t308 : Int).toNat x1_1.size).size) = False := eq_false (Nat.not_lt.2 c21)
             have H' := Aside0.mk H
             clear H
             go_wp2_with (first | (go_at_call 45; (with_reducible refine (spec_l1Cur_pick.calls g s0_0 x1001_1 x1002_1 (x1_1.size : Int) t308 t309 t310 w0 _ ?_ ?_ A9.out).mono ?_); exact Z3 HI0.out; exact Z7; rintro e w22 ⟨rfl, hi, hb, hk⟩; refine k3_ (KeepBut.trans (Z6) hk (.inl rfl)) (hb) (hi) ?_; clear HK HB HI0; intro HK HB HI0; (try clear hb hk hi)) | (go_at_call 45; (with_reducible refine (spec_l1Cur_pick.calls g s0_0 t309 t310 (a2.size : Int) t311 t312 t313 w0 _ ?_ ?_ A10.out).mono ?_); exact Z3 HI0.out; exact Z7; rintro e w23 ⟨rfl, hi, hb, hk⟩; refine k3_ (KeepBut.trans (Z6) hk (.inl rfl)) (hb) (hi) ?_; clear HK HB HI0; intro HK HB HI0; (try clear hb hk hi); have p13 : 0 ≤ (t311 : Int) := of_decide_eq_true (Z8); have q13 : t311 < (a2.size : Int) := of_decide_eq_true (Z8); have hx13 := bt_at a2 t311; replace p13 := eq_true p13; replace q13 := eq_true q13) | ((with_reducible refine gate_dst (N := 32) rfl ?_); (try (refine gate_guard (by rfl) ?_; dsimp only)); refine Kd.R_lit (Kd.int .u8) _ 5 ?hg (N := 32) ?hd (xs := ([bt a2 t311] : List Int)) (inner := [.int .u8 (bt a2 t311)]) (ok := fun _ => True) (okp := fun _ => True) ?hr ?hp (fun _ hk => hk) trivial (Below.refl _ _) (Nat.le_refl _) (by simp) ?_; (case hd => rfl); (case hg => rfl); (case hr => exact Z44); (case hp => exact (Reps.one (show Kd.M (Kd.int .u8) _ _ _ (bt a2 t311) [.int .u8 (bt a2 t311)] from rfl) (Reps.none _ _))); intro v315 w24 ho25 hb hg_ hnew_; clear hg_ hnew_; (first | rw [← Ny314.out] at ho25 | (simp only [Int.reduceToNat] at ho25; rw [← Ny314.out] at ho25)); refine k4_ (Kd.R_lower ho25 (keep_size (w := w) (g := g) (row := none) (Z6))) (IsS69.below (Z3 HI0.out) hb) (KeepBut.trans (Z6) (KeepBut.of_below hb g none) (.inl rfl)) (below_step (Z7) hb) ?_; clear HI0 HK HB; intro HO316 HI0 HK HB; clear hb ho25; have hcv26 := own_string (P := Try.prog) Try.underlying22 Try.underlying5 Try.underlying9 (Kd.own_of_R HO316.out)) | (go_at_call 45; (with_reducible refine (spec_l1Cur_pick.calls g s0_0 t312 t313 3 t317 t318 t319 w0 _ ?_ ?_ A14.out).mono ?_); exact Z3 HI0.out; exact Z7; rintro e w27 ⟨rfl, hi, hb, hk⟩; refine k4_ (Kd.R_mono (Kd.R_keep (IsS69.apart (show IsS69 w0 _ g s0_0 t312 t313 from Z3 HI0.out) (Z1 HO316.out) (by decide)) hk (fun _ h => h.2)) (fun _ h => h.1)) (KeepBut.trans (Z6) hk (.inl rfl)) (hb) (hi) ?_; clear HO316 HK HB HI0; intro HO316 HK HB HI0; (try clear hb hk hi)))
             repeat (go_quiet (first | (go_at_call 45; (with_reducible refine (spec_l1Cur_pick.calls g s0_0 x1001_1 x1002_1 (x1_1.size : Int) t308 t309 t310 w0 _ ?_ ?_ A9.out).mono ?_); exact Z3 HI0.out; exact Z7; rintro e w22 ⟨rfl, hi, hb, hk⟩; refine k3_ (KeepBut.trans (Z6) hk (.inl rfl)) (hb) (hi) ?_; clear HK HB HI0; intro HK HB HI0; (try clear hb hk hi)) | (go_at_call 45; (with_reducible refine (spec_l1Cur_pick.calls g s0_0 t309 t310 (a2.size : Int) t311 t312 t313 w0 _ ?_ ?_ A10.out).mono ?_); exact Z3 HI0.out; exact Z7; rintro e w23 ⟨rfl, hi, hb, hk⟩; refine k3_ (KeepBut.trans (Z6) hk (.inl rfl)) (hb) (hi) ?_; clear HK HB HI0; intro HK HB HI0; (try clear hb hk hi); have p13 : 0 ≤ (t311 : Int) := of_decide_eq_true (Z8); have q13 : t311 < (a2.size : Int) := of_decide_eq_true (Z8); have hx13 := bt_at a2 t311; replace p13 := eq_true p13; replace q13 := eq_true q13) | ((with_reducible refine gate_dst (N := 32) rfl ?_); (try (refine gate_guard (by rfl) ?_; dsimp only)); refine Kd.R_lit (Kd.int .u8) _ 5 ?hg (N := 32) ?hd (xs := ([bt a2 t311] : List Int)) (inner := [.int .u8 (bt a2 t311)]) (ok := fun _ => True) (okp := fun _ => True) ?hr ?hp (fun _ hk => hk) trivial (Below.refl _ _) (Nat.le_refl _) (by simp) ?_; (case hd => rfl); (case hg => rfl); (case hr => exact Z44); (case hp => exact (Reps.one (show Kd.M (Kd.int .u8) _ _ _ (bt a2 t311) [.int .u8 (bt a2 t311)] from rfl) (Reps.none _ _))); intro v315 w24 ho25 hb hg_ hnew_; clear hg_ hnew_; (first | rw [← Ny314.out] at ho25 | (simp only [Int.reduceToNat] at ho25; rw [← Ny314.out] at ho25)); refine k4_ (Kd.R_lower ho25 (keep_size (w := w) (g := g) (row := none) (Z6))) (IsS69.below (Z3 HI0.out) hb) (KeepBut.trans (Z6) (KeepBut.of_below hb g none) (.inl rfl)) (below_step (Z7) hb) ?_; clear HI0 HK HB; intro HO316 HI0 HK HB; clear hb ho25; have hcv26 := own_string (P := Try.prog) Try.underlying22 Try.underlying5 Try.underlying9 (Kd.own_of_R HO316.out)) | (go_at_call 45; (with_reducible refine (spec_l1Cur_pick.calls g s0_0 t312 t313 3 t317 t318 t319 w0 _ ?_ ?_ A14.out).mono ?_); exact Z3 HI0.out; exact Z7; rintro e w27 ⟨rfl, hi, hb, hk⟩; refine k4_ (Kd.R_mono (Kd.R_keep (IsS69.apart (show IsS69 w0 _ g s0_0 t312 t313 from Z3 HI0.out) (Z1 HO316.out) (by decide)) hk (fun _ h => h.2)) (fun _ h => h.1)) (KeepBut.trans (Z6) hk (.inl rfl)) (hb) (hi) ?_; clear HO316 HK HB HI0; intro HO316 HK HB HI0; (try clear hb hk hi))); try go_wp2_with (first | (go_at_call 45; (with_reducible refine (spec_l1Cur_pick.calls g s0_0 x1001_1 x1002_1 (x1_1.size : Int) t308 t309 t310 w0 _ ?_ ?_ A9.out).mono ?_); exact Z3 HI0.out; exact Z7; rintro e w22 ⟨rfl, hi, hb, hk⟩; refine k3_ (KeepBut.trans (Z6) hk (.inl rfl)) (hb) (hi) ?_; clear HK HB HI0; intro HK HB HI0; (try clear hb hk hi)) | (go_at_call 45; (with_reducible refine (spec_l1Cur_pick.calls g s0_0 t309 t310 (a2.size : Int) t311 t312 t313 w0 _ ?_ ?_ A10.out).mono ?_); exact Z3 HI0.out; exact Z7; rintro e w23 ⟨rfl, hi, hb, hk⟩; refine k3_ (KeepBut.trans (Z6) hk (.inl rfl)) (hb) (hi) ?_; clear HK HB HI0; intro HK HB HI0; (try clear hb hk hi); have p13 : 0 ≤ (t311 : Int) := of_decide_eq_true (Z8); have q13 : t311 < (a2.size : Int) := of_decide_eq_true (Z8); have hx13 := bt_at a2 t311; replace p13 := eq_true p13; replace q13 := eq_true q13) | ((with_reducible refine gate_dst (N := 32) rfl ?_); (try (refine gate_guard (by rfl) ?_; dsimp only)); refine Kd.R_lit (Kd.int .u8) _ 5 ?hg (N := 32) ?hd (xs := ([bt a2 t311] : List Int)) (inner := [.int .u8 (bt a2 t311)]) (ok := fun _ => True) (okp := fun _ => True) ?hr ?hp (fun _ hk => hk) trivial (Below.refl _ _) (Nat.le_refl _) (by simp) ?_; (case hd => rfl); (case hg => rfl); (case hr => exact Z44); (case hp => exact (Reps.one (show Kd.M (Kd.int .u8) _ _ _ (bt a2 t311) [.int .u8 (bt a2 t311)] from rfl) (Reps.none _ _))); intro v315 w24 ho25 hb hg_ hnew_; clear hg_ hnew_; (first | rw [← Ny314.out] at ho25 | (simp only [Int.reduceToNat] at ho25; rw [← Ny314.out] at ho25)); refine k4_ (Kd.R_lower ho25 (keep_size (w := w) (g := g) (row := none) (Z6))) (IsS69.below (Z3 HI0.out) hb) (KeepBut.trans (Z6) (KeepBut.of_below hb g none) (.inl rfl)) (below_step (Z7) hb) ?_; clear HI0 HK HB; intro HO316 HI0 HK HB; clear hb ho25; have hcv26 := own_string (P := Try.prog) Try.underlying22 Try.underlying5 Try.underlying9 (Kd.own_of_R HO316.out)) | (go_at_call 45; (with_reducible refine (spec_l1Cur_pick.calls g s0_0 t312 t313 3 t317 t318 t319 w0 _ ?_ ?_ A14.out).mono ?_); exact Z3 HI0.out; exact Z7; rintro e w27 ⟨rfl, hi, hb, hk⟩; refine k4_ (Kd.R_mono (Kd.R_keep (IsS69.apart (show IsS69 w0 _ g s0_0 t312 t313 from Z3 HI0.out) (Z1 HO316.out) (by decide)) hk (fun _ h => h.2)) (fun _ h => h.1)) (KeepBut.trans (Z6) hk (.inl rfl)) (hb) (hi) ?_; clear HO316 HK HB HI0; intro HO316 HK HB HI0; (try clear hb hk hi))))
             go_roundg kj5
             case measure => have := HK1.out; have := HJ5.out; omega
             case rel => exact ⟨(((x1_1.extract 0 (t308 : Int).toNat) ++ (strOfNums y314)) ++ (x1_1.extract (t308 : Int).toNat x1_1.size)), (wrap64 (x7_1 - 1)), (t318), (t319), (Z10), (Z10), H', ⟨by have := HK1.out; have := HJ5.out; omega⟩, ⟨Z3 HI0.out⟩, ⟨Z6⟩, ⟨Z7⟩⟩
            rw [if_neg c21] at H
            exact absurd H (by simp)
           rw [if_neg c18] at H
           exact absurd H (by simp)
          rw [if_neg c17] at H
          exact absurd H (by simp)
         rw [if_neg c16] at H
         exact absurd H (by simp)
        rw [if_neg c15] at H
        have c15b0 : (t317 == 0) = false := beq_eq_false_iff_ne.mpr c15
        have c15b1 : (t317 != 0) = true := bne_iff_ne.mpr c15
        by_cases c28 : t317 = 1
        ·rw [if_pos c28] at H
         have c28b0 : (t317 == 1) = true := beq_iff_eq.mpr c28
         have c28b1 : (t317 != 1) = false := bne_eq_false_iff_eq.mpr c28
         clear c28
         by_cases c29 : 0 ≤ t308
         ·rw [if_pos c29] at H
          have c29b0 := eq_true c29
          have c29b1 : decide (0 ≤ t308) = true := decide_eq_true c29
          clear c29
          by_cases c30 : t308 ≤ (x1_1.size : Int)
          ·rw [if_pos c30] at H
           have c30b0 := eq_true c30
           have c30b1 : decide (t308 ≤ (x1_1.size : Int)) = true := decide_eq_true c30
           clear c30
           by_cases c31 : (x1_1.extract 0 (t308 : Int).toNat).size + (strOfNums y314).size ≤ 9223372036854775807
           ·rw [if_pos c31] at H
            have c31b0 := eq_true c31
            have c31b1 : decide ((x1_1.extract 0 (t308 : Int).toNat).size + (strOfNums y314).size ≤ 9223372036854775807) = true := decide_eq_true c31
            try have c31b2 : (9223372036854775807 < (x1_1.extract 0 (t308 : Int).toNat).size + (strOfNums y314).size) = False := eq_false (Nat.not_lt.2 c31)
            obtain ⟨ji32, hji32⟩ : ∃ j_ : Int, (wrap64 (t308 + 1)) = j_ := ⟨_, rfl⟩
            replace H : (if 0 ≤ (ji32) then (if (ji32) ≤ (x1_1.size : Int) then (if ((x1_1.extract 0 (t308 : Int).toNat) ++ (strOfNums y314)).size + (x1_1.extract ((ji32) : Int).toNat x1_1.size).size ≤ 9223372036854775807 then (spec_l1Cur_spoilt.l0 kj5 (((x1_1.extract 0 (t308 : Int).toNat) ++ (strOfNums y314)) ++ (x1_1.extract ((ji32) : Int).toNat x1_1.size)) a2 (wrap64 (x7_1 - 1)) s0_0 t318 t319) else (none)) else (none)) else (none)) = some (r1, r2, r3) := by first | (rw [hji32] at H; exact H) | (simp only [hji32] at H ⊢; exact H)
            (try rw [hji32] at A9)
            (try rw [hji32] at A10)
            (try rw [hji32] at A14)
            have hji32w : (IntKind.i64.wrap (t308 + 1)) = ji32 := (i64_w _).trans hji32
            by_cases c33 : 0 ≤ (ji32)
            ·rw [if_pos c33] at H
             have c33b0 := eq_true c33
             have c33b1 : decide (0 ≤ (ji32)) = true := decide_eq_true c33
             clear c33
             by_cases c34 : (ji32) ≤ (x1_1.size : Int)
             ·rw [if_pos c34] at H
              have c34b0 := eq_true c34
              have c34b1 : decide ((ji32) ≤ (x1_1.size : Int)) = true := decide_eq_true c34
              clear c34
              by_cases c35 : ((x1_1.extract 0 (t308 : Int).toNat) ++ (strOfNums y314)).size + (x1_1.extract ((ji32) : Int).toNat x1_1.size).size ≤ 9223372036854775807
              ·rw [if_pos c35] at H
               have c35b0 := eq_true c35
               have c35b1 : decide (((x1_1.extract 0 (t308 : Int).toNat) ++ (strOfNums y314)).size + (x1_1.extract ((ji32) : Int).toNat x1_1.size).size ≤ 9223372036854775807) = true := decide_eq_true c35
               try have c35b2 : (9223372036854775807 < ((x1_1.extract 0 (t308 : Int).toNat) ++ (strOfNums y314)).size + (x1_1.extract ((ji32) : Int).toNat x1_1.size).size) = False := eq_false (Nat.not_lt.2 c35)
               have H' := Aside0.mk H
               clear H
               go_wp2_with (first | (go_at_call 45; (with_reducible refine (spec_l1Cur_pick.calls g s0_0 x1001_1 x1002_1 (x1_1.size : Int) t308 t309 t310 w0 _ ?_ ?_ A9.out).mono ?_); exact Z3 HI0.out; exact Z7; rintro e w36 ⟨rfl, hi, hb, hk⟩; refine k3_ (KeepBut.trans (Z6) hk (.inl rfl)) (hb) (hi) ?_; clear HK HB HI0; intro HK HB HI0; (try clear hb hk hi)) | (go_at_call 45; (with_reducible refine (spec_l1Cur_pick.calls g s0_0 t309 t310 (a2.size : Int) t311 t312 t313 w0 _ ?_ ?_ A10.out).mono ?_); exact Z3 HI0.out; exact Z7; rintro e w37 ⟨rfl, hi, hb, hk⟩; refine k3_ (KeepBut.trans (Z6) hk (.inl rfl)) (hb) (hi) ?_; clear HK HB HI0; intro HK HB HI0; (try clear hb hk hi); have p13 : 0 ≤ (t311 : Int) := of_decide_eq_true (Z8); have q13 : t311 < (a2.size : Int) := of_decide_eq_true (Z8); have hx13 := bt_at a2 t311; replace p13 := eq_true p13; replace q13 := eq_true q13) | ((with_reducible refine gate_dst (N := 32) rfl ?_); (try (refine gate_guard (by rfl) ?_; dsimp only)); refine Kd.R_lit (Kd.int .u8) _ 5 ?hg (N := 32) ?hd (xs := ([bt a2 t311] : List Int)) (inner := [.int .u8 (bt a2 t311)]) (ok := fun _ => True) (okp := fun _ => True) ?hr ?hp (fun _ hk => hk) trivial (Below.refl _ _) (Nat.le_refl _) (by simp) ?_; (case hd => rfl); (case hg => rfl); (case hr => exact Z44); (case hp => exact (Reps.one (show Kd.M (Kd.int .u8) _ _ _ (bt a2 t311) [.int .u8 (bt a2 t311)] from rfl) (Reps.none _ _))); intro v315 w38 ho39 hb hg_ hnew_; clear hg_ hnew_; (first | rw [← Ny314.out] at ho39 | (simp only [Int.reduceToNat] at ho39; rw [← Ny314.out] at ho39)); refine k4_ (Kd.R_lower ho39 (keep_size (w := w) (g := g) (row := none) (Z6))) (IsS69.below (Z3 HI0.out) hb) (KeepBut.trans (Z6) (KeepBut.of_below hb g none) (.inl rfl)) (below_step (Z7) hb) ?_; clear HI0 HK HB; intro HO316 HI0 HK HB; clear hb ho39; have hcv40 := own_string (P := Try.prog) Try.underlying22 Try.underlying5 Try.underlying9 (Kd.own_of_R HO316.out)) | (go_at_call 45; (with_reducible refine (spec_l1Cur_pick.calls g s0_0 t312 t313 3 t317 t318 t319 w0 _ ?_ ?_ A14.out).mono ?_); exact Z3 HI0.out; exact Z7; rintro e w41 ⟨rfl, hi, hb, hk⟩; refine k4_ (Kd.R_mono (Kd.R_keep (IsS69.apart (show IsS69 w0 _ g s0_0 t312 t313 from Z3 HI0.out) (Z1 HO316.out) (by decide)) hk (fun _ h => h.2)) (fun _ h => h.1)) (KeepBut.trans (Z6) hk (.inl rfl)) (hb) (hi) ?_; clear HO316 HK HB HI0; intro HO316 HK HB HI0; (try clear hb hk hi)))
               repeat (go_quiet (first | (go_at_call 45; (with_reducible refine (spec_l1Cur_pick.calls g s0_0 x1001_1 x1002_1 (x1_1.size : Int) t308 t309 t310 w0 _ ?_ ?_ A9.out).mono ?_); exact Z3 HI0.out; exact Z7; rintro e w36 ⟨rfl, hi, hb, hk⟩; refine k3_ (KeepBut.trans (Z6) hk (.inl rfl)) (hb) (hi) ?_; clear HK HB HI0; intro HK HB HI0; (try clear hb hk hi)) | (go_at_call 45; (with_reducible refine (spec_l1Cur_pick.calls g s0_0 t309 t310 (a2.size : Int) t311 t312 t313 w0 _ ?_ ?_ A10.out).mono ?_); exact Z3 HI0.out; exact Z7; rintro e w37 ⟨rfl, hi, hb, hk⟩; refine k3_ (KeepBut.trans (Z6) hk (.inl rfl)) (hb) (hi) ?_; clear HK HB HI0; intro HK HB HI0; (try clear hb hk hi); have p13 : 0 ≤ (t311 : Int) := of_decide_eq_true (Z8); have q13 : t311 < (a2.size : Int) := of_decide_eq_true (Z8); have hx13 := bt_at a2 t311; replace p13 := eq_true p13; replace q13 := eq_true q13) | ((with_reducible refine gate_dst (N := 32) rfl ?_); (try (refine gate_guard (by rfl) ?_; dsimp only)); refine Kd.R_lit (Kd.int .u8) _ 5 ?hg (N := 32) ?hd (xs := ([bt a2 t311] : List Int)) (inner := [.int .u8 (bt a2 t311)]) (ok := fun _ => True) (okp := fun _ => True) ?hr ?hp (fun _ hk => hk) trivial (Below.refl _ _) (Nat.le_refl _) (by simp) ?_; (case hd => rfl); (case hg => rfl); (case hr => exact Z44); (case hp => exact (Reps.one (show Kd.M (Kd.int .u8) _ _ _ (bt a2 t311) [.int .u8 (bt a2 t311)] from rfl) (Reps.none _ _))); intro v315 w38 ho39 hb hg_ hnew_; clear hg_ hnew_; (first | rw [← Ny314.out] at ho39 | (simp only [Int.reduceToNat] at ho39; rw [← Ny314.out] at ho39)); refine k4_ (Kd.R_lower ho39 (keep_size (w := w) (g := g) (row := none) (Z6))) (IsS69.below (Z3 HI0.out) hb) (KeepBut.trans (Z6) (KeepBut.of_below hb g none) (.inl rfl)) (below_step (Z7) hb) ?_; clear HI0 HK HB; intro HO316 HI0 HK HB; clear hb ho39; have hcv40 := own_string (P := Try.prog) Try.underlying22 Try.underlying5 Try.underlying9 (Kd.own_of_R HO316.out)) | (go_at_call 45; (with_reducible refine (spec_l1Cur_pick.calls g s0_0 t312 t313 3 t317 t318 t319 w0 _ ?_ ?_ A14.out).mono ?_); exact Z3 HI0.out; exact Z7; rintro e w41 ⟨rfl, hi, hb, hk⟩; refine k4_ (Kd.R_mono (Kd.R_keep (IsS69.apart (show IsS69 w0 _ g s0_0 t312 t313 from Z3 HI0.out) (Z1 HO316.out) (by decide)) hk (fun _ h => h.2)) (fun _ h => h.1)) (KeepBut.trans (Z6) hk (.inl rfl)) (hb) (hi) ?_; clear HO316 HK HB HI0; intro HO316 HK HB HI0; (try clear hb hk hi))); try go_wp2_with (first | (go_at_call 45; (with_reducible refine (spec_l1Cur_pick.calls g s0_0 x1001_1 x1002_1 (x1_1.size : Int) t308 t309 t310 w0 _ ?_ ?_ A9.out).mono ?_); exact Z3 HI0.out; exact Z7; rintro e w36 ⟨rfl, hi, hb, hk⟩; refine k3_ (KeepBut.trans (Z6) hk (.inl rfl)) (hb) (hi) ?_; clear HK HB HI0; intro HK HB HI0; (try clear hb hk hi)) | (go_at_call 45; (with_reducible refine (spec_l1Cur_pick.calls g s0_0 t309 t310 (a2.size : Int) t311 t312 t313 w0 _ ?_ ?_ A10.out).mono ?_); exact Z3 HI0.out; exact Z7; rintro e w37 ⟨rfl, hi, hb, hk⟩; refine k3_ (KeepBut.trans (Z6) hk (.inl rfl)) (hb) (hi) ?_; clear HK HB HI0; intro HK HB HI0; (try clear hb hk hi); have p13 : 0 ≤ (t311 : Int) := of_decide_eq_true (Z8); have q13 : t311 < (a2.size : Int) := of_decide_eq_true (Z8); have hx13 := bt_at a2 t311; replace p13 := eq_true p13; replace q13 := eq_true q13) | ((with_reducible refine gate_dst (N := 32) rfl ?_); (try (refine gate_guard (by rfl) ?_; dsimp only)); refine Kd.R_lit (Kd.int .u8) _ 5 ?hg (N := 32) ?hd (xs := ([bt a2 t311] : List Int)) (inner := [.int .u8 (bt a2 t311)]) (ok := fun _ => True) (okp := fun _ => True) ?hr ?hp (fun _ hk => hk) trivial (Below.refl _ _) (Nat.le_refl _) (by simp) ?_; (case hd => rfl); (case hg => rfl); (case hr => exact Z44); (case hp => exact (Reps.one (show Kd.M (Kd.int .u8) _ _ _ (bt a2 t311) [.int .u8 (bt a2 t311)] from rfl) (Reps.none _ _))); intro v315 w38 ho39 hb hg_ hnew_; clear hg_ hnew_; (first | rw [← Ny314.out] at ho39 | (simp only [Int.reduceToNat] at ho39; rw [← Ny314.out] at ho39)); refine k4_ (Kd.R_lower ho39 (keep_size (w := w) (g := g) (row := none) (Z6))) (IsS69.below (Z3 HI0.out) hb) (KeepBut.trans (Z6) (KeepBut.of_below hb g none) (.inl rfl)) (below_step (Z7) hb) ?_; clear HI0 HK HB; intro HO316 HI0 HK HB; clear hb ho39; have hcv40 := own_string (P := Try.prog) Try.underlying22 Try.underlying5 Try.underlying9 (Kd.own_of_R HO316.out)) | (go_at_call 45; (with_reducible refine (spec_l1Cur_pick.calls g s0_0 t312 t313 3 t317 t318 t319 w0 _ ?_ ?_ A14.out).mono ?_); exact Z3 HI0.out; exact Z7; rintro e w41 ⟨rfl, hi, hb, hk⟩; refine k4_ (Kd.R_mono (Kd.R_keep (IsS69.apart (show IsS69 w0 _ g s0_0 t312 t313 from Z3 HI0.out) (Z1 HO316.out) (by decide)) hk (fun _ h => h.2)) (fun _ h => h.1)) (KeepBut.trans (Z6) hk (.inl rfl)) (hb) (hi) ?_; clear HO316 HK HB HI0; intro HO316 HK HB HI0; (try clear hb hk hi))))
               go_roundg kj5
               case measure => have := HK1.out; have := HJ5.out; omega
               case rel => exact ⟨(((x1_1.extract 0 (t308 : Int).toNat) ++ (strOfNums y314)) ++ (x1_1.extract ((ji32) : Int).toNat x1_1.size)), (wrap64 (x7_1 - 1)), (t318), (t319), (by first | rfl | (simp; done) | (simp only [← hji32] <;> (first | rfl | simp)) | (simp [*]; done)), (Z10), H', ⟨by have := HK1.out; have := HJ5.out; omega⟩, ⟨Z3 HI0.out⟩, ⟨Z6⟩, ⟨Z7⟩⟩
              rw [if_neg c35] at H
              exact absurd H (by simp)
             rw [if_neg c34] at H
             exact absurd H (by simp)
            rw [if_neg c33] at H
            exact absurd H (by simp)
           rw [if_neg c31] at H
           exact absurd H (by simp)
          rw [if_neg c30] at H
          exact absurd H (by simp)
         rw [if_neg c29] at H
         exact absurd H (by simp)
        rw [if_neg c28] at H
        have c28b0 : (t317 == 1) = false := beq_eq_false_iff_ne.mpr c28
        have c28b1 : (t317 != 1) = true := bne_iff_ne.mpr c28
        by_cases c42 : 0 ≤ t308
        ·rw [if_pos c42] at H
         have c42b0 := eq_true c42
         have c42b1 : decide (0 ≤ t308) = true := decide_eq_true c42
         clear c42
         by_cases c43 : t308 ≤ (x1_1.size : Int)
         ·rw [if_pos c43] at H
          have c43b0 := eq_true c43
          have c43b1 : decide (t308 ≤ (x1_1.size : Int)) = true := decide_eq_true c43
          clear c43
          obtain ⟨ji44, hji44⟩ : ∃ j_ : Int, (wrap64 (t308 + 1)) = j_ := ⟨_, rfl⟩
          replace H : (if 0 ≤ (ji44) then (if (ji44) ≤ (x1_1.size : Int) then (if (x1_1.extract 0 (t308 : Int).toNat).size + (x1_1.extract ((ji44) : Int).toNat x1_1.size).size ≤ 9223372036854775807 then (spec_l1Cur_spoilt.l0 kj5 ((x1_1.extract 0 (t308 : Int).toNat) ++ (x1_1.extract ((ji44) : Int).toNat x1_1.size)) a2 (wrap64 (x7_1 - 1)) s0_0 t318 t319) else (none)) else (none)) else (none)) = some (r1, r2, r3) := by first | (rw [hji44] at H; exact H) | (simp only [hji44] at H ⊢; exact H)
          (try rw [hji44] at A9)
          (try rw [hji44] at A10)
          (try rw [hji44] at A14)
          have hji44w : (IntKind.i64.wrap (t308 + 1)) = ji44 := (i64_w _).trans hji44
          by_cases c45 : 0 ≤ (ji44)
          ·rw [if_pos c45] at H
           have c45b0 := eq_true c45
           have c45b1 : decide (0 ≤ (ji44)) = true := decide_eq_true c45
           clear c45
           by_cases c46 : (ji44) ≤ (x1_1.size : Int)
           ·rw [if_pos c46] at H
            have c46b0 := eq_true c46
            have c46b1 : decide ((ji44) ≤ (x1_1.size : Int)) = true := decide_eq_true c46
            clear c46
            by_cases c47 : (x1_1.extract 0 (t308 : Int).toNat).size + (x1_1.extract ((ji44) : Int).toNat x1_1.size).size ≤ 9223372036854775807
            ·rw [if_pos c47] at H
             have c47b0 := eq_true c47
             have c47b1 : decide ((x1_1.extract 0 (t308 : Int).toNat).size + (x1_1.extract ((ji44) : Int).toNat x1_1.size).size ≤ 9223372036854775807) = true := decide_eq_true c47
             try have c47b2 : (9223372036854775807 < (x1_1.extract 0 (t308 : Int).toNat).size + (x1_1.extract ((ji44) : Int).toNat x1_1.size).size) = False := eq_false (Nat.not_lt.2 c47)
             have H' := Aside0.mk H
             clear H
             go_wp2_with (first | (go_at_call 45; (with_reducible refine (spec_l1Cur_pick.calls g s0_0 x1001_1 x1002_1 (x1_1.size : Int) t308 t309 t310 w0 _ ?_ ?_ A9.out).mono ?_); exact Z3 HI0.out; exact Z7; rintro e w48 ⟨rfl, hi, hb, hk⟩; refine k3_ (KeepBut.trans (Z6) hk (.inl rfl)) (hb) (hi) ?_; clear HK HB HI0; intro HK HB HI0; (try clear hb hk hi)) | (go_at_call 45; (with_reducible refine (spec_l1Cur_pick.calls g s0_0 t309 t310 (a2.size : Int) t311 t312 t313 w0 _ ?_ ?_ A10.out).mono ?_); exact Z3 HI0.out; exact Z7; rintro e w49 ⟨rfl, hi, hb, hk⟩; refine k3_ (KeepBut.trans (Z6) hk (.inl rfl)) (hb) (hi) ?_; clear HK HB HI0; intro HK HB HI0; (try clear hb hk hi); have p13 : 0 ≤ (t311 : Int) := of_decide_eq_true (Z8); have q13 : t311 < (a2.size : Int) := of_decide_eq_true (Z8); have hx13 := bt_at a2 t311; replace p13 := eq_true p13; replace q13 := eq_true q13) | ((with_reducible refine gate_dst (N := 32) rfl ?_); (try (refine gate_guard (by rfl) ?_; dsimp only)); refine Kd.R_lit (Kd.int .u8) _ 5 ?hg (N := 32) ?hd (xs := ([bt a2 t311] : List Int)) (inner := [.int .u8 (bt a2 t311)]) (ok := fun _ => True) (okp := fun _ => True) ?hr ?hp (fun _ hk => hk) trivial (Below.refl _ _) (Nat.le_refl _) (by simp) ?_; (case hd => rfl); (case hg => rfl); (case hr => exact Z44); (case hp => exact (Reps.one (show Kd.M (Kd.int .u8) _ _ _ (bt a2 t311) [.int .u8 (bt a2 t311)] from rfl) (Reps.none _ _))); intro v315 w50 ho51 hb hg_ hnew_; clear hg_ hnew_; (first | rw [← Ny314.out] at ho51 | (simp only [Int.reduceToNat] at ho51; rw [← Ny314.out] at ho51)); refine k4_ (Kd.R_lower ho51 (keep_size (w := w) (g := g) (row := none) (Z6))) (IsS69.below (Z3 HI0.out) hb) (KeepBut.trans (Z6) (KeepBut.of_below hb g none) (.inl rfl)) (below_step (Z7) hb) ?_; clear HI0 HK HB; intro HO316 HI0 HK HB; clear hb ho51; have hcv52 := own_string (P := Try.prog) Try.underlying22 Try.underlying5 Try.underlying9 (Kd.own_of_R HO316.out)) | (go_at_call 45; (with_reducible refine (spec_l1Cur_pick.calls g s0_0 t312 t313 3 t317 t318 t319 w0 _ ?_ ?_ A14.out).mono ?_); exact Z3 HI0.out; exact Z7; rintro e w53 ⟨rfl, hi, hb, hk⟩; refine k4_ (Kd.R_mono (Kd.R_keep (IsS69.apart (show IsS69 w0 _ g s0_0 t312 t313 from Z3 HI0.out) (Z1 HO316.out) (by decide)) hk (fun _ h => h.2)) (fun _ h => h.1)) (KeepBut.trans (Z6) hk (.inl rfl)) (hb) (hi) ?_; clear HO316 HK HB HI0; intro HO316 HK HB HI0; (try clear hb hk hi)))
             repeat (go_quiet (first | (go_at_call 45; (with_reducible refine (spec_l1Cur_pick.calls g s0_0 x1001_1 x1002_1 (x1_1.size : Int) t308 t309 t310 w0 _ ?_ ?_ A9.out).mono ?_); exact Z3 HI0.out; exact Z7; rintro e w48 ⟨rfl, hi, hb, hk⟩; refine k3_ (KeepBut.trans (Z6) hk (.inl rfl)) (hb) (hi) ?_; clear HK HB HI0; intro HK HB HI0; (try clear hb hk hi)) | (go_at_call 45; (with_reducible refine (spec_l1Cur_pick.calls g s0_0 t309 t310 (a2.size : Int) t311 t312 t313 w0 _ ?_ ?_ A10.out).mono ?_); exact Z3 HI0.out; exact Z7; rintro e w49 ⟨rfl, hi, hb, hk⟩; refine k3_ (KeepBut.trans (Z6) hk (.inl rfl)) (hb) (hi) ?_; clear HK HB HI0; intro HK HB HI0; (try clear hb hk hi); have p13 : 0 ≤ (t311 : Int) := of_decide_eq_true (Z8); have q13 : t311 < (a2.size : Int) := of_decide_eq_true (Z8); have hx13 := bt_at a2 t311; replace p13 := eq_true p13; replace q13 := eq_true q13) | ((with_reducible refine gate_dst (N := 32) rfl ?_); (try (refine gate_guard (by rfl) ?_; dsimp only)); refine Kd.R_lit (Kd.int .u8) _ 5 ?hg (N := 32) ?hd (xs := ([bt a2 t311] : List Int)) (inner := [.int .u8 (bt a2 t311)]) (ok := fun _ => True) (okp := fun _ => True) ?hr ?hp (fun _ hk => hk) trivial (Below.refl _ _) (Nat.le_refl _) (by simp) ?_; (case hd => rfl); (case hg => rfl); (case hr => exact Z44); (case hp => exact (Reps.one (show Kd.M (Kd.int .u8) _ _ _ (bt a2 t311) [.int .u8 (bt a2 t311)] from rfl) (Reps.none _ _))); intro v315 w50 ho51 hb hg_ hnew_; clear hg_ hnew_; (first | rw [← Ny314.out] at ho51 | (simp only [Int.reduceToNat] at ho51; rw [← Ny314.out] at ho51)); refine k4_ (Kd.R_lower ho51 (keep_size (w := w) (g := g) (row := none) (Z6))) (IsS69.below (Z3 HI0.out) hb) (KeepBut.trans (Z6) (KeepBut.of_below hb g none) (.inl rfl)) (below_step (Z7) hb) ?_; clear HI0 HK HB; intro HO316 HI0 HK HB; clear hb ho51; have hcv52 := own_string (P := Try.prog) Try.underlying22 Try.underlying5 Try.underlying9 (Kd.own_of_R HO316.out)) | (go_at_call 45; (with_reducible refine (spec_l1Cur_pick.calls g s0_0 t312 t313 3 t317 t318 t319 w0 _ ?_ ?_ A14.out).mono ?_); exact Z3 HI0.out; exact Z7; rintro e w53 ⟨rfl, hi, hb, hk⟩; refine k4_ (Kd.R_mono (Kd.R_keep (IsS69.apart (show IsS69 w0 _ g s0_0 t312 t313 from Z3 HI0.out) (Z1 HO316.out) (by decide)) hk (fun _ h => h.2)) (fun _ h => h.1)) (KeepBut.trans (Z6) hk (.inl rfl)) (hb) (hi) ?_; clear HO316 HK HB HI0; intro HO316 HK HB HI0; (try clear hb hk hi))); try go_wp2_with (first | (go_at_call 45; (with_reducible refine (spec_l1Cur_pick.calls g s0_0 x1001_1 x1002_1 (x1_1.size : Int) t308 t309 t310 w0 _ ?_ ?_ A9.out).mono ?_); exact Z3 HI0.out; exact Z7; rintro e w48 ⟨rfl, hi, hb, hk⟩; refine k3_ (KeepBut.trans (Z6) hk (.inl rfl)) (hb) (hi) ?_; clear HK HB HI0; intro HK HB HI0; (try clear hb hk hi)) | (go_at_call 45; (with_reducible refine (spec_l1Cur_pick.calls g s0_0 t309 t310 (a2.size : Int) t311 t312 t313 w0 _ ?_ ?_ A10.out).mono ?_); exact Z3 HI0.out; exact Z7; rintro e w49 ⟨rfl, hi, hb, hk⟩; refine k3_ (KeepBut.trans (Z6) hk (.inl rfl)) (hb) (hi) ?_; clear HK HB HI0; intro HK HB HI0; (try clear hb hk hi); have p13 : 0 ≤ (t311 : Int) := of_decide_eq_true (Z8); have q13 : t311 < (a2.size : Int) := of_decide_eq_true (Z8); have hx13 := bt_at a2 t311; replace p13 := eq_true p13; replace q13 := eq_true q13) | ((with_reducible refine gate_dst (N := 32) rfl ?_); (try (refine gate_guard (by rfl) ?_; dsimp only)); refine Kd.R_lit (Kd.int .u8) _ 5 ?hg (N := 32) ?hd (xs := ([bt a2 t311] : List Int)) (inner := [.int .u8 (bt a2 t311)]) (ok := fun _ => True) (okp := fun _ => True) ?hr ?hp (fun _ hk => hk) trivial (Below.refl _ _) (Nat.le_refl _) (by simp) ?_; (case hd => rfl); (case hg => rfl); (case hr => exact Z44); (case hp => exact (Reps.one (show Kd.M (Kd.int .u8) _ _ _ (bt a2 t311) [.int .u8 (bt a2 t311)] from rfl) (Reps.none _ _))); intro v315 w50 ho51 hb hg_ hnew_; clear hg_ hnew_; (first | rw [← Ny314.out] at ho51 | (simp only [Int.reduceToNat] at ho51; rw [← Ny314.out] at ho51)); refine k4_ (Kd.R_lower ho51 (keep_size (w := w) (g := g) (row := none) (Z6))) (IsS69.below (Z3 HI0.out) hb) (KeepBut.trans (Z6) (KeepBut.of_below hb g none) (.inl rfl)) (below_step (Z7) hb) ?_; clear HI0 HK HB; intro HO316 HI0 HK HB; clear hb ho51; have hcv52 := own_string (P := Try.prog) Try.underlying22 Try.underlying5 Try.underlying9 (Kd.own_of_R HO316.out)) | (go_at_call 45; (with_reducible refine (spec_l1Cur_pick.calls g s0_0 t312 t313 3 t317 t318 t319 w0 _ ?_ ?_ A14.out).mono ?_); exact Z3 HI0.out; exact Z7; rintro e w53 ⟨rfl, hi, hb, hk⟩; refine k4_ (Kd.R_mono (Kd.R_keep (IsS69.apart (show IsS69 w0 _ g s0_0 t312 t313 from Z3 HI0.out) (Z1 HO316.out) (by decide)) hk (fun _ h => h.2)) (fun _ h => h.1)) (KeepBut.trans (Z6) hk (.inl rfl)) (hb) (hi) ?_; clear HO316 HK HB HI0; intro HO316 HK HB HI0; (try clear hb hk hi))))
             go_roundg kj5
             case measure => have := HK1.out; have := HJ5.out; omega
             case rel => exact ⟨((x1_1.extract 0 (t308 : Int).toNat) ++ (x1_1.extract ((ji44) : Int).toNat x1_1.size)), (wrap64 (x7_1 - 1)), (t318), (t319), (by first | rfl | (simp; done) | (simp only [← hji44] <;> (first | rfl | simp)) | (simp [*]; done)), (Z10), H', ⟨by have := HK1.out; have := HJ5.out; omega⟩, ⟨Z3 HI0.out⟩, ⟨Z6⟩, ⟨Z7⟩⟩
            rw [if_neg c47] at H
            exact absurd H (by simp)
           rw [if_neg c46] at H
           exact absurd H (by simp)
          rw [if_neg c45] at H
          exact absurd H (by simp)
         rw [if_neg c43] at H
         exact absurd H (by simp)
        rw [if_neg c42] at H
        exact absurd H (by simp)
       rw [if_neg c12] at H
       exact absurd H (by simp)
      rw [if_neg c11] at H
      exact absurd H (by simp)
     replace c8 := Bool.eq_false_iff.mpr c8
     subst c8
     rw [if_neg (show ¬ (false = true) by decide)] at H
     simp only [Option.some.injEq, Prod.mk.injEq] at H
     obtain ⟨rfl, rfl, rfl⟩ := H
     go_wp2
     repeat (go_quiet (fail); try go_wp2)
     go_ret
     exact ⟨Z11, Z3 HI0.out, Z7, Z6⟩

/-! ### spec_l1Cur_scan: function 44 -/
mutual
def spec_l1Cur_scan.j0 : Nat → Int → Int → List Int → Int → Int → Option (List ByteArray × Int × Int)
 | 0, _, _, _, _, _ => none
 | k + 1, x3, x4, x1000, x1001, x1002 => (spec_l1Cur_sheet.f k x1000 x1001 x1002).bind fun bt329 => ((spec_scMake.f k bt329.1 x3 x4).bind fun t334 => ((spec_l1Cur_pick.f x1000 bt329.2.1 bt329.2.2 4).bind fun bt337 => (spec_l1Cur_scan.l0 k x3 x4 t334 bt337.1 x1000 bt337.2.1 bt337.2.2)))
def spec_l1Cur_scan.l0 : Nat → Int → Int → List ByteArray → Int → List Int → Int → Int → Option (List ByteArray × Int × Int)
 | 0, _, _, _, _, _, _, _ => none
 | k + 1, x3, x4, x5, x6, x1000, x1001, x1002 => if x6 > 0 then ((spec_l1Cur_pick.f x1000 x1001 x1002 x4).bind fun bt340 => (if 0 ≤ bt340.1 then (if bt340.1 < (x5.length : Int) then ((spec_l1Cur_spoilt.f k x1000 bt340.2.1 bt340.2.2 (rdOf ByteArray.empty x5 bt340.1) (⟨#[46, 111, 63]⟩ : ByteArray)).bind fun bt344 => ((some (x5.set (bt340.1 : Int).toNat bt344.1 : List ByteArray)).bind fun y347 => (if ((rdOf ByteArray.empty y347 bt340.1).size : Int) = x3 then (spec_l1Cur_scan.l0 k x3 x4 y347 (wrap64 (x6 - 1)) x1000 bt344.2.1 bt344.2.2) else ((spec_scMake.f k ([] : List (S90)) x3 1).bind fun t349 => (if 0 < (t349.length : Int) then (spec_l1Cur_scan.l0 k x3 x4 (y347.set (bt340.1 : Int).toNat (rdOf ByteArray.empty t349 0)) (wrap64 (x6 - 1)) x1000 bt344.2.1 bt344.2.2) else (none)))))) else (none)) else (none))) else ((spec_l1Cur_pick.f x1000 x1001 x1002 30).bind fun bt354 => (if bt354.1 = 0 then ((spec_l1Cur_pick.f x1000 bt354.2.1 bt354.2.2 x4).bind fun bt357 => (if 0 ≤ bt357.1 then (if bt357.1 < (x5.length : Int) then (if (rdOf ByteArray.empty x5 bt357.1).size + 1 ≤ 9223372036854775807 then (some ((x5.set (bt357.1 : Int).toNat ((rdOf ByteArray.empty x5 bt357.1) ++ (⟨#[46]⟩ : ByteArray))), bt357.2.1, bt357.2.2)) else (none)) else (none)) else (none))) else (if bt354.1 = 1 then (if 0 < (x5.length : Int) then ((spec_l1Cur_spoilt.f k x1000 bt354.2.1 bt354.2.2 (rdOf ByteArray.empty x5 0) (⟨#[120, 79, 32]⟩ : ByteArray)).bind fun bt363 => (some ((x5.set (0 : Int).toNat bt363.1), bt363.2.1, bt363.2.2))) else (none)) else (if bt354.1 = 2 then (some (([] : List ByteArray), bt354.2.1, bt354.2.2)) else (if bt354.1 = 3 then ((spec_l1Cur_pick.f x1000 bt354.2.1 bt354.2.2 2).bind fun bt367 => ((spec_scMake.f k ([] : List (S90)) 3 (wrap64 (60 + bt367.1))).bind fun t370 => (some (t370, bt367.2.1, bt367.2.2)))) else (if bt354.1 = 4 then ((spec_l1Cur_pick.f x1000 bt354.2.1 bt354.2.2 2).bind fun bt373 => ((spec_scMake.f k ([] : List (S90)) (wrap64 (20 + bt373.1)) 2).bind fun t376 => (some (t376, bt373.2.1, bt373.2.2)))) else (some (x5, bt354.2.1, bt354.2.2))))))))
end
def spec_l1Cur_scan.f (k : Nat) (s0_0 : List Int) (s0_1 : Int) (s0_2 : Int) : Option (List ByteArray × Int × Int) := (spec_l1Cur_pick.f s0_0 s0_1 s0_2 8).bind fun bt320 => ((spec_l1Cur_pick.f s0_0 bt320.2.1 bt320.2.2 10).bind fun bt323 => ((spec_l1Cur_one.f s0_0 bt323.2.1 bt323.2.2 20).bind fun bt326 => (if bt326.1 = true then (spec_l1Cur_scan.j0 k 20 60 s0_0 bt326.2.1 bt326.2.2) else (spec_l1Cur_scan.j0 k (wrap64 (1 + bt320.1)) (wrap64 (1 + bt323.1)) s0_0 bt326.2.1 bt326.2.2))))
theorem spec_l1Cur_scan.mono_l : ∀ k, (∀ y0 y1 y2 y3 y4, LeO (spec_l1Cur_scan.j0 k y0 y1 y2 y3 y4) (spec_l1Cur_scan.j0 (k + 1) y0 y1 y2 y3 y4)) ∧ (∀ y0 y1 y2 y3 y4 y5 y6, LeO (spec_l1Cur_scan.l0 k y0 y1 y2 y3 y4 y5 y6) (spec_l1Cur_scan.l0 (k + 1) y0 y1 y2 y3 y4 y5 y6))
 | 0 => ⟨fun _ _ _ _ _ r h => by simp [spec_l1Cur_scan.j0] at h, fun _ _ _ _ _ _ _ r h => by simp [spec_l1Cur_scan.l0] at h⟩
 | k + 1 => by
  obtain ⟨ih0, ih1⟩ := spec_l1Cur_scan.mono_l k
  refine ⟨?_, ?_⟩
  ·intro y0 y1 y2 y3 y4
   unfold spec_l1Cur_scan.j0
   exact mo6_
  intro y0 y1 y2 y3 y4 y5 y6
  unfold spec_l1Cur_scan.l0
  exact mo6_
theorem spec_l1Cur_scan.mono : ∀ a0 a1 a2 k, LeO (spec_l1Cur_scan.f k a0 a1 a2) (spec_l1Cur_scan.f (k + 1) a0 a1 a2) := by
 intro a0 a1 a2 k
 obtain ⟨ih0, ih1⟩ := spec_l1Cur_scan.mono_l k
 unfold spec_l1Cur_scan.f
 exact mo6_
set_option maxHeartbeats 8000000 in
set_option maxRecDepth 100000 in
theorem spec_l1Cur_scan.calls (k : Nat) (g : Nat) (s0_0 : List Int) (s0_1 : Int) (s0_2 : Int) (r1 : List ByteArray) (r2 : Int) (r3 : Int) (w0 w : World) (hI : IsS69 w0 w g s0_0 s0_1 s0_2) (hB : Below w0.heap.size w0 w) (h : spec_l1Cur_scan.f k s0_0 s0_1 s0_2 = some (r1, r2, r3)) :
  Calls Try.prog 44 #[.pointer (some ⟨g, 0, none⟩)] w fun e w' => ∃ v0_ : Value, e = .returned (v0_) ∧ Kd.R Kd.string 9 w' w.heap.size (fun _ => True) v0_ r1 ∧ IsS69 w0 w' g s0_0 r2 r3 ∧ Below w0.heap.size w0 w' ∧ KeepBut w w' g none := by
 have HI0 := Aside0.mk hI
 have HK := Aside0.mk (KeepBut.refl w g none)
 have HL := Aside0.mk hB.size
 clear hI
 have HW0 := Aside0.mk hB.size
 have HB := Aside0.mk hB
 clear hB
 have H : ((spec_l1Cur_pick.f s0_0 s0_1 s0_2 8).bind fun bt320 => ((spec_l1Cur_pick.f s0_0 bt320.2.1 bt320.2.2 10).bind fun bt323 => ((spec_l1Cur_one.f s0_0 bt323.2.1 bt323.2.2 20).bind fun bt326 => (if bt326.1 = true then (spec_l1Cur_scan.j0 k 20 60 s0_0 bt326.2.1 bt326.2.2) else (spec_l1Cur_scan.j0 k (wrap64 (1 + bt320.1)) (wrap64 (1 + bt323.1)) s0_0 bt326.2.1 bt326.2.2))))) = some (r1, r2, r3) := h
 clear h
 replace H := Option.bind_eq_some_iff.mp H
 obtain ⟨⟨t320, t321, t322⟩, A20, H⟩ := H
 (try dsimp only at H)
 have A2 := Aside0.mk A20
 clear A20
 replace H := Option.bind_eq_some_iff.mp H
 obtain ⟨⟨t323, t324, t325⟩, A30, H⟩ := H
 (try dsimp only at H)
 have A3 := Aside0.mk A30
 clear A30
 replace H := Option.bind_eq_some_iff.mp H
 obtain ⟨⟨t326, t327, t328⟩, A40, H⟩ := H
 (try dsimp only at H)
 have A4 := Aside0.mk A40
 clear A40
 have HC5 := Aside0.mk H
 clear H
 go_enter Try.func44, Try.ntmps44
 go_upto_if 15 with (first | ((with_reducible refine gate_callee (f := 45) rfl ?_); refine gl_ 9 Try.func45 #[.pointer (some ⟨g, 0, none⟩), .int .i64 8] ?_; (with_reducible refine (spec_l1Cur_pick.calls g s0_0 s0_1 s0_2 8 t320 t321 t322 w0 _ ?_ ?_ A2.out).mono ?_); exact Z3 HI0.out; exact Z7; rintro e w6 ⟨rfl, hi, hb, hk⟩; refine ⟨_, rfl, ?_⟩; refine k3_ (KeepBut.trans (Z6) hk (.inl rfl)) (hb) (hi) ?_; clear HK HB HI0; intro HK HB HI0; (try clear hb hk hi)) | ((with_reducible refine gate_callee (f := 45) rfl ?_); refine gl_ 12 Try.func45 #[.pointer (some ⟨g, 0, none⟩), .int .i64 10] ?_; (with_reducible refine (spec_l1Cur_pick.calls g s0_0 t321 t322 10 t323 t324 t325 w0 _ ?_ ?_ A3.out).mono ?_); exact Z3 HI0.out; exact Z7; rintro e w7 ⟨rfl, hi, hb, hk⟩; refine ⟨_, rfl, ?_⟩; refine k3_ (KeepBut.trans (Z6) hk (.inl rfl)) (hb) (hi) ?_; clear HK HB HI0; intro HK HB HI0; (try clear hb hk hi)) | ((with_reducible refine gate_callee (f := 79) rfl ?_); refine gl_ 15 Try.func79 #[.pointer (some ⟨g, 0, none⟩), .int .i64 20] ?_; (with_reducible refine (spec_l1Cur_one.calls g s0_0 t324 t325 20 t326 t327 t328 w0 _ ?_ ?_ A4.out).mono ?_); exact Z3 HI0.out; exact Z7; rintro e w8 ⟨rfl, hi, hb, hk⟩; refine ⟨_, rfl, ?_⟩; refine k3_ (KeepBut.trans (Z6) hk (.inl rfl)) (hb) (hi) ?_; clear HK HB HI0; intro HK HB HI0; (try clear hb hk hi)))
 (try simp only [Act.put, List.setIfInBounds_toArray, List.set_cons_zero, List.set_cons_succ])
 go_cut [3, 4] (fun v3 v4 wc => ∃ (kq : Nat) (x3_4 : Int) (x4_4 : Int), v3 = .int .i64 x3_4 ∧ v4 = .int .i64 x4_4 ∧ Aside0 (spec_l1Cur_scan.j0 kq x3_4 x4_4 s0_0 t327 t328 = some (r1, r2, r3)) ∧ Aside0 (kq ≤ k) ∧ Aside0 (IsS69 w0 wc g s0_0 t327 t328) ∧ Aside0 (KeepBut w wc g none) ∧ Aside0 (Below w0.heap.size w0 wc))
 case first =>
  have H := HC5.out
  clear HC5
  by_cases c9 : t326 = true
  ·subst c9
   rw [if_pos rfl] at H
   have H' := Aside0.mk H
   clear H
   go_wp2
   go_meet
   case rel => exact ⟨_, (20), (60), (Z10), (Z10), H', ⟨Z65⟩, ⟨Z3 HI0.out⟩, ⟨Z6⟩, ⟨Z7⟩⟩
  replace c9 := Bool.eq_false_iff.mpr c9
  subst c9
  rw [if_neg (show ¬ (false = true) by decide)] at H
  have H' := Aside0.mk H
  clear H
  go_wp2
  go_meet
  case rel => exact ⟨_, (wrap64 (1 + t320)), (wrap64 (1 + t323)), (Z10), (Z10), H', ⟨Z65⟩, ⟨Z3 HI0.out⟩, ⟨Z6⟩, ⟨Z7⟩⟩
 case rest =>
  clear HC5
  (try clear p2); (try clear c4); (try clear p6); (try clear c7); (try clear c9)
  obtain ⟨kq, x3_4, x4_4, rfl, rfl, HA, HJ4, HI0, HK, HB⟩ := hcut
  cases kq with
  | zero => exact absurd HA.out (by simp [spec_l1Cur_scan.j0])
  | succ kj4 =>
   have H := HA.out
   clear HA
   simp only [spec_l1Cur_scan.j0] at H
   replace H := Option.bind_eq_some_iff.mp H
   obtain ⟨⟨t329, t332, t333⟩, A100, H⟩ := H
   (try dsimp only at H)
   have A10 := Aside0.mk A100
   clear A100
   replace H := Option.bind_eq_some_iff.mp H
   obtain ⟨t334, A110, H⟩ := H
   (try dsimp only at H)
   have A11 := Aside0.mk A110
   clear A110
   replace H := Option.bind_eq_some_iff.mp H
   obtain ⟨⟨t337, t338, t339⟩, A120, H⟩ := H
   (try dsimp only at H)
   have A12 := Aside0.mk A120
   clear A120
   have H' := Aside0.mk H
   clear H
   go_wp2_with (first | ((with_reducible refine gate_callee (f := 87) rfl ?_); refine gl_ 17 Try.func87 #[.pointer (some ⟨g, 0, none⟩)] ?_; (with_reducible refine (spec_l1Cur_sheet.calls kj4 g s0_0 t327 t328 t329 t332 t333 w0 _ ?_ ?_ A10.out).mono ?_); exact Z3 HI0.out; exact Z7; rintro e w13 ⟨v330, rfl, ho0, hi, hb, hk⟩; refine ⟨_, rfl, ?_⟩; refine k4_ (Kd.R_lower ho0 (keep_size (w := w) (g := g) (row := none) (Z6))) (KeepBut.trans (Z6) hk (.inl rfl)) (hb) (hi) ?_; clear HK HB HI0; intro HO331 HK HB HI0; (try clear hb hk hi ho0); obtain ⟨Ao14, co14, eo14⟩ := Kd.R_slice HO331.out; subst eo14) | ((with_reducible refine gate_callee (f := 86) rfl ?_); refine gl_ 20 Try.func86 #[.slice Ao14 t329.length co14, .int .i64 x3_4, .int .i64 x4_4] ?_; (with_reducible refine (spec_scMake.calls kj4 _ _ t329 x3_4 x4_4 t334 _ ?_ ?_ A11.out).mono ?_); exact Z5 HO331.out; exact (Kd.R_reads' HO331.out).2.1; rintro e w15 ⟨v335, rfl, ho0, hb⟩; refine ⟨_, rfl, ?_⟩; refine k5_ (Kd.R_below (Z1 HO331.out) hb) (Kd.R_lower ho0 (keep_size (w := w) (g := g) (row := none) (Z6))) (IsS69.below (Z3 HI0.out) hb) (KeepBut.trans (Z6) (KeepBut.of_below hb g none) (.inl rfl)) (below_step (Z7) hb) ?_; clear HO331 HI0 HK HB; intro HO331 HO336 HI0 HK HB; (try clear hb ho0)) | ((with_reducible refine gate_callee (f := 45) rfl ?_); refine gl_ 22 Try.func45 #[.pointer (some ⟨g, 0, none⟩), .int .i64 4] ?_; (with_reducible refine (spec_l1Cur_pick.calls g s0_0 t332 t333 4 t337 t338 t339 w0 _ ?_ ?_ A12.out).mono ?_); exact Z3 HI0.out; exact Z7; rintro e w16 ⟨rfl, hi, hb, hk⟩; refine ⟨_, rfl, ?_⟩; refine k5_ (Kd.R_mono (Kd.R_keep (IsS69.apart (show IsS69 w0 _ g s0_0 t332 t333 from Z3 HI0.out) (Z1 HO331.out) (by decide)) hk (fun _ h => h.2)) (fun _ h => h.1)) (Kd.R_mono (Kd.R_keep (IsS69.apart (show IsS69 w0 _ g s0_0 t332 t333 from Z3 HI0.out) (Z1 HO336.out) (by decide)) hk (fun _ h => h.2)) (fun _ h => h.1)) (KeepBut.trans (Z6) hk (.inl rfl)) (hb) (hi) ?_; clear HO331 HO336 HK HB HI0; intro HO331 HO336 HK HB HI0; (try clear hb hk hi)))
   go_loopg [6] kj4 (fun kq v6 w' => ∃ (x5_2 : List ByteArray) (x6_2 : Int) (x1001_2 : Int) (x1002_2 : Int), v6 = .int .i64 x6_2 ∧ Aside0 (spec_l1Cur_scan.l0 kq x3_4 x4_4 x5_2 x6_2 s0_0 x1001_2 x1002_2 = some (r1, r2, r3)) ∧ Aside0 (kq ≤ kj4) ∧ Aside0 (Kd.R Kd.string 9 w' w.heap.size (fun _ => True) v335 x5_2) ∧ Aside0 (IsS69 w0 w' g s0_0 x1001_2 x1002_2) ∧ Aside0 (KeepBut w w' g none) ∧ Aside0 (Below w0.heap.size w0 w'))
   case atStart => exact ⟨(t334), (t337), (t338), (t339), (Z10), H', ⟨Nat.le_refl _⟩, ⟨Z1 HO336.out⟩, ⟨Z3 HI0.out⟩, ⟨Z6⟩, ⟨Z7⟩⟩
   case round =>
    clear H'
    (try clear c8)
    obtain ⟨x5_2, x6_2, x1001_2, x1002_2, rfl, HA, HK2, HO_5, HI0, HK, HB⟩ := hrel
    cases gk with
    | zero => exact absurd HA.out (by simp [spec_l1Cur_scan.l0])
    | succ k2 =>
     have H := HA.out
     clear HA
     simp only [spec_l1Cur_scan.l0] at H
     by_cases c17 : x6_2 > 0
     ·rw [if_pos c17] at H
      have c17b0 : decide (0 < x6_2) = true := decide_eq_true c17
      clear c17
      replace H := Option.bind_eq_some_iff.mp H
      obtain ⟨⟨t340, t341, t342⟩, A180, H⟩ := H
      (try dsimp only at H)
      have A18 := Aside0.mk A180
      clear A180
      by_cases c19 : 0 ≤ t340
      ·rw [if_pos c19] at H
       have c19b0 : decide (0 ≤ t340) = true := decide_eq_true c19
       clear c19
       by_cases c20 : t340 < (x5_2.length : Int)
       ·rw [if_pos c20] at H
        have c20b0 : decide (t340 < (x5_2.length : Int)) = true := decide_eq_true c20
        clear c20
        replace H := Option.bind_eq_some_iff.mp H
        obtain ⟨⟨t344, t345, t346⟩, A210, H⟩ := H
        (try dsimp only at H)
        have A21 := Aside0.mk A210
        clear A210
        obtain ⟨y347, hy347⟩ : ∃ y_ : List ByteArray, y_ = (x5_2.set (t340 : Int).toNat t344) := ⟨_, rfl⟩
        replace H : (if ((rdOf ByteArray.empty y347 t340).size : Int) = x3_4 then (spec_l1Cur_scan.l0 k2 x3_4 x4_4 y347 (wrap64 (x6_2 - 1)) s0_0 t345 t346) else ((spec_scMake.f k2 ([] : List (S90)) x3_4 1).bind fun t349 => (if 0 < (t349.length : Int) then (spec_l1Cur_scan.l0 k2 x3_4 x4_4 (y347.set (t340 : Int).toNat (rdOf ByteArray.empty t349 0)) (wrap64 (x6_2 - 1)) s0_0 t345 t346) else (none)))) = some (r1, r2, r3) := by first | (rw [hy347]; with_reducible exact H) | (have H2_ := (Option.bind_some _ _).symm.trans H; rw [hy347]; with_reducible exact H2_) | (have H2_ := (Option.bind_some _ _).symm.trans H; with_reducible exact H2_) | with_reducible exact H | (rw [hy347]; exact H) | exact H
        have Ny347 := Aside0.mk hy347
        clear hy347
        by_cases c23 : ((rdOf ByteArray.empty y347 t340).size : Int) = x3_4
        ·rw [if_pos c23] at H
         have c23b0 : (((rdOf ByteArray.empty y347 t340).size : Int) == x3_4) = true := beq_iff_eq.mpr c23
         have c23b1 : (((rdOf ByteArray.empty y347 t340).size : Int) != x3_4) = false := bne_eq_false_iff_eq.mpr c23
         clear c23
         have H' := Aside0.mk H
         clear H
         go_wp2_with (first | ((with_reducible refine gate_callee (f := 45) rfl ?_); refine gl_ 29 Try.func45 #[.pointer (some ⟨g, 0, none⟩), .int .i64 x4_4] ?_; (with_reducible refine (spec_l1Cur_pick.calls g s0_0 x1001_2 x1002_2 x4_4 t340 t341 t342 w0 _ ?_ ?_ A18.out).mono ?_); exact Z3 HI0.out; exact Z7; rintro e w24 ⟨rfl, hi, hb, hk⟩; refine ⟨_, rfl, ?_⟩; refine k4_ (Kd.R_mono (Kd.R_keep (IsS69.apart (show IsS69 w0 _ g s0_0 x1001_2 x1002_2 from Z3 HI0.out) (Z1 HO_5.out) (by decide)) hk (fun _ h => h.2)) (fun _ h => h.1)) (KeepBut.trans (Z6) hk (.inl rfl)) (hb) (hi) ?_; clear HO_5 HK HB HI0; intro HO_5 HK HB HI0; (try clear hb hk hi); obtain ⟨Ao25, co25, eo25⟩ := Kd.R_slice HO_5.out; subst eo25; have p343 : 0 ≤ (t340 : Int) := of_decide_eq_true (Z8); have q343 : t340 < (x5_2.length : Int) := of_decide_eq_true (Z8); obtain ⟨ad343, e343, hx343_0⟩ := Kd.at_string (Kd.R_reads' HO_5.out).2.2 t340 p343 q343; cases e343; replace p343 := eq_true p343; replace q343 := eq_true q343) | ((with_reducible refine gate_callee (f := 88) rfl ?_); refine gl_ 37 Try.func88 #[.pointer (some ⟨g, 0, none⟩), .string (rdOf ByteArray.empty x5_2 t340), .string (⟨#[46, 111, 63]⟩ : ByteArray)] ?_; (with_reducible refine (spec_l1Cur_spoilt.calls k2 g s0_0 t341 t342 (rdOf ByteArray.empty x5_2 t340) (⟨#[46, 111, 63]⟩ : ByteArray) t344 t345 t346 w0 _ ?_ ?_ A21.out).mono ?_); exact Z3 HI0.out; exact Z7; rintro e w26 ⟨rfl, hi, hb, hk⟩; refine ⟨_, rfl, ?_⟩; refine k4_ (Kd.R_mono (Kd.R_keep (IsS69.apart (show IsS69 w0 _ g s0_0 t341 t342 from Z3 HI0.out) (Z1 HO_5.out) (by decide)) hk (fun _ h => h.2)) (fun _ h => h.1)) (KeepBut.trans (Z6) hk (.inl rfl)) (hb) (hi) ?_; clear HO_5 HK HB HI0; intro HO_5 HK HB HI0; (try clear hb hk hi); have p22 : 0 ≤ (t340 : Int) := of_decide_eq_true (Z8); have q22 : (t340 : Int) < ((x5_2.length : Int) : Int) := of_decide_eq_true (Z8); obtain ⟨go22, co22, eo22, gb22, gl22, cl22, HG22⟩ := Kd.R_form HO_5.out (by omega); (first | cases eo22 | (injection eo22 with ea_ en_ ec_; (first | subst ea_ | (injection ea_ with ea_; subst ea_)); subst ec_; clear en_)); have GB22 := Aside0.mk gb22; have GG22 := Aside0.mk HG22; clear gb22 gl22 HG22; (first | simp only [add_plain] at hx343_0 | skip); obtain ⟨hx22_0, hf22_0⟩ := Kd.R_celln (⟨#[]⟩ : ByteArray) HO_5.out (t340 : Int) p22 q22; replace p22 := eq_true p22; replace q22 := eq_true q22; obtain ⟨hy27_, hz27_⟩ := Kd.R_celln (⟨#[]⟩ : ByteArray) HO_5.out (t340 : Int) (of_decide_eq_true (Z8)) (of_decide_eq_true (Z8)); have HP27 := Kd.R_putg HO_5.out (t340 : Int) t344) | ((with_reducible refine gate_store (t := 9) (p := 38) rfl ?_); refine store_event (t := 9) (p := 38) (v := ?vo_w28) (w1 := (w26.setCell ⟨go22, (t340 : Int).toNat, none⟩ (.string t344))) ?hg ?ho ?hn ?hr ?_; (case ho => rfl); (case hg => rfl); (case hn => rfl); (case hr => exact Z44); intro w28 hw; have hg : w26.grownBy w28 (some go22) := (by rw [hw]; exact HP27.2); have hp_ : Kd.R Kd.string 9 w28 w.heap.size (fun _ => True) (.slice (some ⟨go22, 0, none⟩) x5_2.length co25) y347 := (by rw [hw, Ny347.out]; exact HP27.1); clear HP27; refine k4_ (hp_) (IsS69.grown (Z3 HI0.out) hg (IsS69.own_ne HI0.out HO_5.out (by decide))) ((Z96 : Below w0.heap.size w0 w28)) (KeepBut.trans (Z6) (KeepBut.of_grown hg g) (Kd.R_base2 HO_5.out)) ?_; clear HO_5 HI0 HB HK; intro HO_5 HI0 HB HK; clear hg hw hp_; have p348 : 0 ≤ (t340 : Int) := of_decide_eq_true (Z8); have q348 : t340 < (y347.length : Int) := (Z90); have ql348 : ((t340 : Int) < ((x5_2.length : Int) : Int)) = True := eq_true (of_decide_eq_true (Z8)); obtain ⟨ad348, e348, hx348_0⟩ := Kd.at_string (Kd.R_reads' HO_5.out).2.2 t340 p348 q348; obtain rfl : (⟨go22, 0, none⟩ : Addr) = ad348 := (by injection e348); (first | simp only [add_plain] at hx348_0 | simp only [add_at] at hx348_0 | simp only [Addr.add, Nat.zero_add] at hx348_0 | skip); replace p348 := eq_true p348; replace q348 := eq_true q348))
         go_roundg k2
         case measure => have := HJ4.out; have := HK2.out; omega
         case rel => exact ⟨(y347), (wrap64 (x6_2 - 1)), (t345), (t346), (Z10), H', ⟨by have := HJ4.out; have := HK2.out; omega⟩, ⟨Z1 HO_5.out⟩, ⟨Z3 HI0.out⟩, ⟨Z6⟩, ⟨Z7⟩⟩
        rw [if_neg c23] at H
        have c23b0 : (((rdOf ByteArray.empty y347 t340).size : Int) == x3_4) = false := beq_eq_false_iff_ne.mpr c23
        have c23b1 : (((rdOf ByteArray.empty y347 t340).size : Int) != x3_4) = true := bne_iff_ne.mpr c23
        replace H := Option.bind_eq_some_iff.mp H
        obtain ⟨t349, A290, H⟩ := H
        (try dsimp only at H)
        have A29 := Aside0.mk A290
        clear A290
        by_cases c30 : 0 < (t349.length : Int)
        ·rw [if_pos c30] at H
         have c30b0 : decide (0 < (t349.length : Int)) = true := decide_eq_true c30
         have c30b1 : decide (0 < t349.length) = true := decide_eq_true (by omega)
         clear c30
         obtain ⟨y353, hy353⟩ : ∃ y_ : List ByteArray, y_ = (y347.set (t340 : Int).toNat (rdOf ByteArray.empty t349 0)) := ⟨_, rfl⟩
         replace H : (spec_l1Cur_scan.l0 k2 x3_4 x4_4 y353 (wrap64 (x6_2 - 1)) s0_0 t345 t346) = some (r1, r2, r3) := by first | (rw [hy353]; with_reducible exact H) | (have H2_ := (Option.bind_some _ _).symm.trans H; rw [hy353]; with_reducible exact H2_) | (have H2_ := (Option.bind_some _ _).symm.trans H; with_reducible exact H2_) | with_reducible exact H | (rw [hy353]; exact H) | exact H
         have Ny353 := Aside0.mk hy353
         clear hy353
         have H' := Aside0.mk H
         clear H
         go_wp2_with (first | ((with_reducible refine gate_callee (f := 45) rfl ?_); refine gl_ 29 Try.func45 #[.pointer (some ⟨g, 0, none⟩), .int .i64 x4_4] ?_; (with_reducible refine (spec_l1Cur_pick.calls g s0_0 x1001_2 x1002_2 x4_4 t340 t341 t342 w0 _ ?_ ?_ A18.out).mono ?_); exact Z3 HI0.out; exact Z7; rintro e w32 ⟨rfl, hi, hb, hk⟩; refine ⟨_, rfl, ?_⟩; refine k4_ (Kd.R_mono (Kd.R_keep (IsS69.apart (show IsS69 w0 _ g s0_0 x1001_2 x1002_2 from Z3 HI0.out) (Z1 HO_5.out) (by decide)) hk (fun _ h => h.2)) (fun _ h => h.1)) (KeepBut.trans (Z6) hk (.inl rfl)) (hb) (hi) ?_; clear HO_5 HK HB HI0; intro HO_5 HK HB HI0; (try clear hb hk hi); obtain ⟨Ao33, co33, eo33⟩ := Kd.R_slice HO_5.out; subst eo33; have p343 : 0 ≤ (t340 : Int) := of_decide_eq_true (Z8); have q343 : t340 < (x5_2.length : Int) := of_decide_eq_true (Z8); obtain ⟨ad343, e343, hx343_0⟩ := Kd.at_string (Kd.R_reads' HO_5.out).2.2 t340 p343 q343; cases e343; replace p343 := eq_true p343; replace q343 := eq_true q343) | ((with_reducible refine gate_callee (f := 88) rfl ?_); refine gl_ 37 Try.func88 #[.pointer (some ⟨g, 0, none⟩), .string (rdOf ByteArray.empty x5_2 t340), .string (⟨#[46, 111, 63]⟩ : ByteArray)] ?_; (with_reducible refine (spec_l1Cur_spoilt.calls k2 g s0_0 t341 t342 (rdOf ByteArray.empty x5_2 t340) (⟨#[46, 111, 63]⟩ : ByteArray) t344 t345 t346 w0 _ ?_ ?_ A21.out).mono ?_); exact Z3 HI0.out; exact Z7; rintro e w34 ⟨rfl, hi, hb, hk⟩; refine ⟨_, rfl, ?_⟩; refine k4_ (Kd.R_mono (Kd.R_keep (IsS69.apart (show IsS69 w0 _ g s0_0 t341 t342 from Z3 HI0.out) (Z1 HO_5.out) (by decide)) hk (fun _ h => h.2)) (fun _ h => h.1)) (KeepBut.trans (Z6) hk (.inl rfl)) (hb) (hi) ?_; clear HO_5 HK HB HI0; intro HO_5 HK HB HI0; (try clear hb hk hi); have p22 : 0 ≤ (t340 : Int) := of_decide_eq_true (Z8); have q22 : (t340 : Int) < ((x5_2.length : Int) : Int) := of_decide_eq_true (Z8); obtain ⟨go22, co22, eo22, gb22, gl22, cl22, HG22⟩ := Kd.R_form HO_5.out (by omega); (first | cases eo22 | (injection eo22 with ea_ en_ ec_; (first | subst ea_ | (injection ea_ with ea_; subst ea_)); subst ec_; clear en_)); have GB22 := Aside0.mk gb22; have GG22 := Aside0.mk HG22; clear gb22 gl22 HG22; (first | simp only [add_plain] at hx343_0 | skip); obtain ⟨hx22_0, hf22_0⟩ := Kd.R_celln (⟨#[]⟩ : ByteArray) HO_5.out (t340 : Int) p22 q22; replace p22 := eq_true p22; replace q22 := eq_true q22; obtain ⟨hy35_, hz35_⟩ := Kd.R_celln (⟨#[]⟩ : ByteArray) HO_5.out (t340 : Int) (of_decide_eq_true (Z8)) (of_decide_eq_true (Z8)); have HP35 := Kd.R_putg HO_5.out (t340 : Int) t344) | ((with_reducible refine gate_store (t := 9) (p := 38) rfl ?_); refine store_event (t := 9) (p := 38) (v := ?vo_w36) (w1 := (w34.setCell ⟨go22, (t340 : Int).toNat, none⟩ (.string t344))) ?hg ?ho ?hn ?hr ?_; (case ho => rfl); (case hg => rfl); (case hn => rfl); (case hr => exact Z44); intro w36 hw; have hg : w34.grownBy w36 (some go22) := (by rw [hw]; exact HP35.2); have hp_ : Kd.R Kd.string 9 w36 w.heap.size (fun _ => True) (.slice (some ⟨go22, 0, none⟩) x5_2.length co33) y347 := (by rw [hw, Ny347.out]; exact HP35.1); clear HP35; refine k4_ (hp_) (IsS69.grown (Z3 HI0.out) hg (IsS69.own_ne HI0.out HO_5.out (by decide))) ((Z96 : Below w0.heap.size w0 w36)) (KeepBut.trans (Z6) (KeepBut.of_grown hg g) (Kd.R_base2 HO_5.out)) ?_; clear HO_5 HI0 HB HK; intro HO_5 HI0 HB HK; clear hg hw hp_; have p348 : 0 ≤ (t340 : Int) := of_decide_eq_true (Z8); have q348 : t340 < (y347.length : Int) := (Z90); have ql348 : ((t340 : Int) < ((x5_2.length : Int) : Int)) = True := eq_true (of_decide_eq_true (Z8)); obtain ⟨ad348, e348, hx348_0⟩ := Kd.at_string (Kd.R_reads' HO_5.out).2.2 t340 p348 q348; obtain rfl : (⟨go22, 0, none⟩ : Addr) = ad348 := (by injection e348); (first | simp only [add_plain] at hx348_0 | simp only [add_at] at hx348_0 | simp only [Addr.add, Nat.zero_add] at hx348_0 | skip); replace p348 := eq_true p348; replace q348 := eq_true q348) | ((with_reducible refine gate_callee (f := 86) rfl ?_); refine gl_ 49 Try.func86 #[.slice none 0 0, .int .i64 x3_4, .int .i64 1] ?_; (refine (spec_scMake.calls k2 _ _ ([] : List (S90)) x3_4 1 t349 _ ?side1 ?side2 A29.out).mono ?_); (case side1 => exact Kd.C_nil _ _); (case side2 => exact Nat.le_refl _); rintro e w37 ⟨v350, rfl, ho0, hb⟩; refine ⟨_, rfl, ?_⟩; refine k5_ (Kd.R_elder' (Z1 HO_5.out) (Kd.R_base ho0) hb) (Kd.R_lower (Kd.R_new' ho0 (Kd.R_lt (Z1 HO_5.out))) (keep_size (w := w) (g := g) (row := none) (Z6))) (IsS69.below (Z3 HI0.out) hb) (KeepBut.trans (Z6) (KeepBut.of_below hb g none) (.inl rfl)) (below_step (Z7) hb) ?_; clear HO_5 HI0 HK HB; intro HO_5 HO351 HI0 HK HB; (try clear hb ho0); obtain ⟨Ao38, co38, eo38⟩ := Kd.R_slice HO351.out; subst eo38; have p352 : 0 ≤ (0 : Int) := (by omega); have q352 : 0 < (t349.length : Int) := of_decide_eq_true (Z8); obtain ⟨ad352, e352, hx352_0⟩ := Kd.at_string (Kd.R_reads' HO351.out).2.2 0 p352 q352; cases e352; have qi352 : (0 < t349.length) = True := eq_true (by omega); (try rw [show ((0 : Int)).toNat = 0 from rfl] at hx352_0); (try rw [Addr.add_zero'] at hx352_0); replace p352 := eq_true p352; replace q352 := eq_true q352; have p31 : 0 ≤ (t340 : Int) := of_decide_eq_true (Z8); have q31 : (t340 : Int) < ((x5_2.length : Int) : Int) := of_decide_eq_true (Z8); obtain ⟨hx31_0, hf31_0⟩ := Kd.R_celln (⟨#[]⟩ : ByteArray) HO_5.out (t340 : Int) p31 q31; replace p31 := eq_true p31; replace q31 := eq_true q31; have n_ := Aside0.mk (Kd.R_mono (ok' := (fun k_ => some k_ ≠ (.slice (some ad352) t349.length co38 : Value).ownBlock)) HO_5.out (fun k_ hk => hk.2)); clear HO_5; have HO_5 := n_; clear n_; obtain ⟨hy39_, hz39_⟩ := Kd.R_celln (⟨#[]⟩ : ByteArray) HO_5.out (t340 : Int) (of_decide_eq_true (Z8)) (of_decide_eq_true (Z8)); have HP39 := Kd.R_putg HO_5.out (t340 : Int) (rdOf ByteArray.empty t349 0)) | ((with_reducible refine gate_store (t := 9) (p := 52) rfl ?_); refine store_event (t := 9) (p := 52) (v := ?vo_w40) (w1 := (w37.setCell ⟨go22, (t340 : Int).toNat, none⟩ (.string (rdOf ByteArray.empty t349 0)))) ?hg ?ho ?hn ?hr ?_; (case ho => rfl); (case hg => rfl); (case hn => rfl); (case hr => exact Z44); intro w40 hw; have hg : w37.grownBy w40 (some go22) := (by rw [hw]; exact HP39.2); have hp_ : Kd.R Kd.string 9 w40 w.heap.size (fun k_ => some k_ ≠ (.slice (some ad352) t349.length co38 : Value).ownBlock) (.slice (some ⟨go22, 0, none⟩) x5_2.length co33) y353 := (by rw [hw, Ny353.out]; exact HP39.1); clear HP39; refine k5_ (hp_) (IsS69.grown (Z3 HI0.out) hg (IsS69.own_ne HI0.out HO_5.out (by decide))) (Kd.R_after (v := (.slice (some ⟨go22, 0, none⟩) x5_2.length co33)) (v1 := (.slice (some ⟨go22, 0, none⟩) x5_2.length co33)) (ok := (fun _ => True)) (Z1 HO351.out) hg (.inl rfl)) ((Z96 : Below w0.heap.size w0 w40)) (KeepBut.trans (Z6) (KeepBut.of_grown hg g) (Kd.R_base2 HO_5.out)) ?_; clear HO_5 HI0 HO351 HB HK; intro HO_5 HI0 HO351 HB HK; clear hg hw hp_))
         go_roundg k2
         case measure => have := HJ4.out; have := HK2.out; omega
         case rel => exact ⟨(y353), (wrap64 (x6_2 - 1)), (t345), (t346), (Z10), H', ⟨by have := HJ4.out; have := HK2.out; omega⟩, ⟨Z50 HO_5.out⟩, ⟨Z3 HI0.out⟩, ⟨Z6⟩, ⟨Z7⟩⟩
        rw [if_neg c30] at H
        exact absurd H (by simp)
       rw [if_neg c20] at H
       exact absurd H (by simp)
      rw [if_neg c19] at H
      exact absurd H (by simp)
     rw [if_neg c17] at H
     have c17b0 : decide (0 < x6_2) = false := decide_eq_false c17
     clear c17
     replace H := Option.bind_eq_some_iff.mp H
     obtain ⟨⟨t354, t355, t356⟩, A410, H⟩ := H
     (try dsimp only at H)
     have A41 := Aside0.mk A410
     clear A410
     by_cases c42 : t354 = 0
     ·rw [if_pos c42] at H
      have c42b0 : (t354 == 0) = true := beq_iff_eq.mpr c42
      have c42b1 : (t354 != 0) = false := bne_eq_false_iff_eq.mpr c42
      clear c42
      replace H := Option.bind_eq_some_iff.mp H
      obtain ⟨⟨t357, t358, t359⟩, A430, H⟩ := H
      (try dsimp only at H)
      have A43 := Aside0.mk A430
      clear A430
      by_cases c44 : 0 ≤ t357
      ·rw [if_pos c44] at H
       have c44b0 : decide (0 ≤ t357) = true := decide_eq_true c44
       clear c44
       by_cases c45 : t357 < (x5_2.length : Int)
       ·rw [if_pos c45] at H
        have c45b0 : decide (t357 < (x5_2.length : Int)) = true := decide_eq_true c45
        clear c45
        by_cases c46 : (rdOf ByteArray.empty x5_2 t357).size + 1 ≤ 9223372036854775807
        ·rw [if_pos c46] at H
         have c46b0 := eq_true c46
         have c46b1 : decide ((rdOf ByteArray.empty x5_2 t357).size + 1 ≤ 9223372036854775807) = true := decide_eq_true c46
         try have c46b2 : (9223372036854775807 < (rdOf ByteArray.empty x5_2 t357).size + 1) = False := eq_false (Nat.not_lt.2 c46)
         obtain ⟨y361, hy361⟩ : ∃ y_ : List ByteArray, y_ = (x5_2.set (t357 : Int).toNat ((rdOf ByteArray.empty x5_2 t357) ++ (⟨#[46]⟩ : ByteArray))) := ⟨_, rfl⟩
         replace H : (some (y361, t358, t359)) = some (r1, r2, r3) := by first | (rw [hy361]; with_reducible exact H) | (have H2_ := (Option.bind_some _ _).symm.trans H; rw [hy361]; with_reducible exact H2_) | (have H2_ := (Option.bind_some _ _).symm.trans H; with_reducible exact H2_) | with_reducible exact H | (rw [hy361]; exact H) | exact H
         have Ny361 := Aside0.mk hy361
         clear hy361
         simp only [Option.some.injEq, Prod.mk.injEq] at H
         obtain ⟨rfl, rfl, rfl⟩ := H
         go_wp2_with (first | ((with_reducible refine gate_callee (f := 45) rfl ?_); refine gl_ 54 Try.func45 #[.pointer (some ⟨g, 0, none⟩), .int .i64 30] ?_; (with_reducible refine (spec_l1Cur_pick.calls g s0_0 x1001_2 x1002_2 30 t354 t355 t356 w0 _ ?_ ?_ A41.out).mono ?_); exact Z3 HI0.out; exact Z7; rintro e w48 ⟨rfl, hi, hb, hk⟩; refine ⟨_, rfl, ?_⟩; refine k4_ (Kd.R_mono (Kd.R_keep (IsS69.apart (show IsS69 w0 _ g s0_0 x1001_2 x1002_2 from Z3 HI0.out) (Z1 HO_5.out) (by decide)) hk (fun _ h => h.2)) (fun _ h => h.1)) (KeepBut.trans (Z6) hk (.inl rfl)) (hb) (hi) ?_; clear HO_5 HK HB HI0; intro HO_5 HK HB HI0; (try clear hb hk hi)) | ((with_reducible refine gate_callee (f := 45) rfl ?_); refine gl_ 60 Try.func45 #[.pointer (some ⟨g, 0, none⟩), .int .i64 x4_4] ?_; (with_reducible refine (spec_l1Cur_pick.calls g s0_0 t355 t356 x4_4 t357 t358 t359 w0 _ ?_ ?_ A43.out).mono ?_); exact Z3 HI0.out; exact Z7; rintro e w49 ⟨rfl, hi, hb, hk⟩; refine ⟨_, rfl, ?_⟩; refine k4_ (Kd.R_mono (Kd.R_keep (IsS69.apart (show IsS69 w0 _ g s0_0 t355 t356 from Z3 HI0.out) (Z1 HO_5.out) (by decide)) hk (fun _ h => h.2)) (fun _ h => h.1)) (KeepBut.trans (Z6) hk (.inl rfl)) (hb) (hi) ?_; clear HO_5 HK HB HI0; intro HO_5 HK HB HI0; (try clear hb hk hi); obtain ⟨Ao50, co50, eo50⟩ := Kd.R_slice HO_5.out; subst eo50; have p360 : 0 ≤ (t357 : Int) := of_decide_eq_true (Z8); have q360 : t357 < (x5_2.length : Int) := of_decide_eq_true (Z8); obtain ⟨ad360, e360, hx360_0⟩ := Kd.at_string (Kd.R_reads' HO_5.out).2.2 t357 p360 q360; cases e360; replace p360 := eq_true p360; replace q360 := eq_true q360; have p47 : 0 ≤ (t357 : Int) := of_decide_eq_true (Z8); have q47 : (t357 : Int) < ((x5_2.length : Int) : Int) := of_decide_eq_true (Z8); obtain ⟨go47, co47, eo47, gb47, gl47, cl47, HG47⟩ := Kd.R_form HO_5.out (by omega); (first | cases eo47 | (injection eo47 with ea_ en_ ec_; (first | subst ea_ | (injection ea_ with ea_; subst ea_)); subst ec_; clear en_)); have GB47 := Aside0.mk gb47; have GG47 := Aside0.mk HG47; clear gb47 gl47 HG47; (first | simp only [add_plain] at hx360_0 | skip); obtain ⟨hx47_0, hf47_0⟩ := Kd.R_celln (⟨#[]⟩ : ByteArray) HO_5.out (t357 : Int) p47 q47; replace p47 := eq_true p47; replace q47 := eq_true q47; obtain ⟨hy51_, hz51_⟩ := Kd.R_celln (⟨#[]⟩ : ByteArray) HO_5.out (t357 : Int) (of_decide_eq_true (Z8)) (of_decide_eq_true (Z8)); have HP51 := Kd.R_putg HO_5.out (t357 : Int) ((rdOf ByteArray.empty x5_2 t357) ++ (⟨#[46]⟩ : ByteArray))) | ((with_reducible refine gate_store (t := 9) (p := 64) rfl ?_); refine store_event (t := 9) (p := 64) (v := ?vo_w52) (w1 := (w49.setCell ⟨go47, (t357 : Int).toNat, none⟩ (.string ((rdOf ByteArray.empty x5_2 t357) ++ (⟨#[46]⟩ : ByteArray))))) ?hg ?ho ?hn ?hr ?_; (case ho => rfl); (case hg => rfl); (case hn => rfl); (case hr => exact Z44); intro w52 hw; have hg : w49.grownBy w52 (some go47) := (by rw [hw]; exact HP51.2); have hp_ : Kd.R Kd.string 9 w52 w.heap.size (fun _ => True) (.slice (some ⟨go47, 0, none⟩) x5_2.length co50) y361 := (by rw [hw, Ny361.out]; exact HP51.1); clear HP51; refine k4_ (hp_) (IsS69.grown (Z3 HI0.out) hg (IsS69.own_ne HI0.out HO_5.out (by decide))) ((by rw [hw]; exact below_set (HB.out) (Nat.le_trans HL.out GB47.out) : Below w0.heap.size w0 w52)) (KeepBut.trans (Z6) (KeepBut.of_grown hg g) (Kd.R_base2 HO_5.out)) ?_; clear HO_5 HI0 HB HK; intro HO_5 HI0 HB HK; clear hg hw hp_))
         go_ret
         exact ⟨_, Z11, Z1 HO_5.out, Z3 HI0.out, Z7, Z6⟩
        rw [if_neg c46] at H
        exact absurd H (by simp)
       rw [if_neg c45] at H
       exact absurd H (by simp)
      rw [if_neg c44] at H
      exact absurd H (by simp)
     rw [if_neg c42] at H
     have c42b0 : (t354 == 0) = false := beq_eq_false_iff_ne.mpr c42
     have c42b1 : (t354 != 0) = true := bne_iff_ne.mpr c42
     by_cases c53 : t354 = 1
     ·rw [if_pos c53] at H
      have c53b0 : (t354 == 1) = true := beq_iff_eq.mpr c53
      have c53b1 : (t354 != 1) = false := bne_eq_false_iff_eq.mpr c53
      clear c53
      by_cases c54 : 0 < (x5_2.length : Int)
      ·rw [if_pos c54] at H
       have c54b0 : decide (0 < (x5_2.length : Int)) = true := decide_eq_true c54
       have c54b1 : decide (0 < x5_2.length) = true := decide_eq_true (by omega)
       clear c54
       replace H := Option.bind_eq_some_iff.mp H
       obtain ⟨⟨t363, t364, t365⟩, A550, H⟩ := H
       (try dsimp only at H)
       have A55 := Aside0.mk A550
       clear A550
       obtain ⟨y366, hy366⟩ : ∃ y_ : List ByteArray, y_ = (x5_2.set (0 : Int).toNat t363) := ⟨_, rfl⟩
       replace H : (some (y366, t364, t365)) = some (r1, r2, r3) := by first | (rw [hy366]; with_reducible exact H) | (have H2_ := (Option.bind_some _ _).symm.trans H; rw [hy366]; with_reducible exact H2_) | (have H2_ := (Option.bind_some _ _).symm.trans H; with_reducible exact H2_) | with_reducible exact H | (rw [hy366]; exact H) | exact H
       have Ny366 := Aside0.mk hy366
       clear hy366
       simp only [Option.some.injEq, Prod.mk.injEq] at H
       obtain ⟨rfl, rfl, rfl⟩ := H
       go_wp2_with (first | ((with_reducible refine gate_callee (f := 45) rfl ?_); refine gl_ 54 Try.func45 #[.pointer (some ⟨g, 0, none⟩), .int .i64 30] ?_; (with_reducible refine (spec_l1Cur_pick.calls g s0_0 x1001_2 x1002_2 30 t354 t355 t356 w0 _ ?_ ?_ A41.out).mono ?_); exact Z3 HI0.out; exact Z7; rintro e w57 ⟨rfl, hi, hb, hk⟩; refine ⟨_, rfl, ?_⟩; refine k4_ (Kd.R_mono (Kd.R_keep (IsS69.apart (show IsS69 w0 _ g s0_0 x1001_2 x1002_2 from Z3 HI0.out) (Z1 HO_5.out) (by decide)) hk (fun _ h => h.2)) (fun _ h => h.1)) (KeepBut.trans (Z6) hk (.inl rfl)) (hb) (hi) ?_; clear HO_5 HK HB HI0; intro HO_5 HK HB HI0; (try clear hb hk hi); obtain ⟨Ao58, co58, eo58⟩ := Kd.R_slice HO_5.out; subst eo58; have p362 : 0 ≤ (0 : Int) := (by omega); have q362 : 0 < (x5_2.length : Int) := of_decide_eq_true (Z8); obtain ⟨ad362, e362, hx362_0⟩ := Kd.at_string (Kd.R_reads' HO_5.out).2.2 0 p362 q362; cases e362; have qi362 : (0 < x5_2.length) = True := eq_true (by omega); (try rw [show ((0 : Int)).toNat = 0 from rfl] at hx362_0); (try rw [Addr.add_zero'] at hx362_0); replace p362 := eq_true p362; replace q362 := eq_true q362) | ((with_reducible refine gate_callee (f := 88) rfl ?_); refine gl_ 72 Try.func88 #[.pointer (some ⟨g, 0, none⟩), .string (rdOf ByteArray.empty x5_2 0), .string (⟨#[120, 79, 32]⟩ : ByteArray)] ?_; (with_reducible refine (spec_l1Cur_spoilt.calls k2 g s0_0 t355 t356 (rdOf ByteArray.empty x5_2 0) (⟨#[120, 79, 32]⟩ : ByteArray) t363 t364 t365 w0 _ ?_ ?_ A55.out).mono ?_); exact Z3 HI0.out; exact Z7; rintro e w59 ⟨rfl, hi, hb, hk⟩; refine ⟨_, rfl, ?_⟩; refine k4_ (Kd.R_mono (Kd.R_keep (IsS69.apart (show IsS69 w0 _ g s0_0 t355 t356 from Z3 HI0.out) (Z1 HO_5.out) (by decide)) hk (fun _ h => h.2)) (fun _ h => h.1)) (KeepBut.trans (Z6) hk (.inl rfl)) (hb) (hi) ?_; clear HO_5 HK HB HI0; intro HO_5 HK HB HI0; (try clear hb hk hi); have p56 : 0 ≤ (0 : Int) := (by omega); have q56 : (0 : Int) < ((x5_2.length : Int) : Int) := of_decide_eq_true (Z8); have qi56 : (0 < x5_2.length) = True := eq_true (by omega); obtain ⟨go56, co56, eo56, gb56, gl56, cl56, HG56⟩ := Kd.R_form HO_5.out (by omega); (first | cases eo56 | (injection eo56 with ea_ en_ ec_; (first | subst ea_ | (injection ea_ with ea_; subst ea_)); subst ec_; clear en_)); have GB56 := Aside0.mk gb56; have GG56 := Aside0.mk HG56; clear gb56 gl56 HG56; (first | simp only [add_plain] at hx362_0 | skip); obtain ⟨hx56_0, hf56_0⟩ := Kd.R_celln (⟨#[]⟩ : ByteArray) HO_5.out (0 : Int) p56 q56; (try rw [show ((0 : Int)).toNat = 0 from rfl] at hx56_0); (try simp only [Nat.reduceMul, Nat.zero_mul, Nat.zero_add, Nat.reduceAdd] at hx56_0); (try rw [show ((0 : Int)).toNat = 0 from rfl] at hf56_0); (try simp only [Nat.reduceMul, Nat.zero_mul, Nat.zero_add, Nat.reduceAdd] at hf56_0); replace p56 := eq_true p56; replace q56 := eq_true q56; obtain ⟨hy60_, hz60_⟩ := Kd.R_celln (⟨#[]⟩ : ByteArray) HO_5.out (0 : Int) (by omega) (of_decide_eq_true (Z8)); (try simp only [Int.reduceToNat, Int.toNat_zero, Int.toNat_ofNat, Nat.reduceMul, Nat.zero_mul, Nat.zero_add] at hy60_ hz60_); (try rw [show ((0 : Int)).toNat = 0 from rfl] at hy60_); (try rw [show ((0 : Int)).toNat = 0 from rfl] at hz60_); have HP60 := Kd.R_putg HO_5.out (0 : Int) t363) | ((with_reducible refine gate_store (t := 9) (p := 73) rfl ?_); refine store_event (t := 9) (p := 73) (v := ?vo_w61) (w1 := (w59.setCell ⟨go56, (0 : Int).toNat, none⟩ (.string t363))) ?hg ?ho ?hn ?hr ?_; (case ho => rfl); (case hg => rfl); (case hn => rfl); (case hr => exact Z44); intro w61 hw; have hg : w59.grownBy w61 (some go56) := (by rw [hw]; exact HP60.2); have hp_ : Kd.R Kd.string 9 w61 w.heap.size (fun _ => True) (.slice (some ⟨go56, 0, none⟩) x5_2.length co58) y366 := (by rw [hw, Ny366.out]; exact HP60.1); clear HP60; refine k4_ (hp_) (IsS69.grown (Z3 HI0.out) hg (IsS69.own_ne HI0.out HO_5.out (by decide))) ((by rw [hw]; exact below_set (HB.out) (Nat.le_trans HL.out GB56.out) : Below w0.heap.size w0 w61)) (KeepBut.trans (Z6) (KeepBut.of_grown hg g) (Kd.R_base2 HO_5.out)) ?_; clear HO_5 HI0 HB HK; intro HO_5 HI0 HB HK; clear hg hw hp_))
       go_ret
       exact ⟨_, Z11, Z1 HO_5.out, Z3 HI0.out, Z7, Z6⟩
      rw [if_neg c54] at H
      exact absurd H (by simp)
     rw [if_neg c53] at H
     have c53b0 : (t354 == 1) = false := beq_eq_false_iff_ne.mpr c53
     have c53b1 : (t354 != 1) = true := bne_iff_ne.mpr c53
     by_cases c62 : t354 = 2
     ·rw [if_pos c62] at H
      have c62b0 : (t354 == 2) = true := beq_iff_eq.mpr c62
      have c62b1 : (t354 != 2) = false := bne_eq_false_iff_eq.mpr c62
      clear c62
      simp only [Option.some.injEq, Prod.mk.injEq] at H
      obtain ⟨rfl, rfl, rfl⟩ := H
      go_wp2_with (first | ((with_reducible refine gate_callee (f := 45) rfl ?_); refine gl_ 54 Try.func45 #[.pointer (some ⟨g, 0, none⟩), .int .i64 30] ?_; (with_reducible refine (spec_l1Cur_pick.calls g s0_0 x1001_2 x1002_2 30 t354 t355 t356 w0 _ ?_ ?_ A41.out).mono ?_); exact Z3 HI0.out; exact Z7; rintro e w63 ⟨rfl, hi, hb, hk⟩; refine ⟨_, rfl, ?_⟩; refine k4_ (Kd.R_mono (Kd.R_keep (IsS69.apart (show IsS69 w0 _ g s0_0 x1001_2 x1002_2 from Z3 HI0.out) (Z1 HO_5.out) (by decide)) hk (fun _ h => h.2)) (fun _ h => h.1)) (KeepBut.trans (Z6) hk (.inl rfl)) (hb) (hi) ?_; clear HO_5 HK HB HI0; intro HO_5 HK HB HI0; (try clear hb hk hi)))
      go_ret
      exact ⟨_, Z11, Z21, Z3 HI0.out, Z7, Z6⟩
     rw [if_neg c62] at H
     have c62b0 : (t354 == 2) = false := beq_eq_false_iff_ne.mpr c62
     have c62b1 : (t354 != 2) = true := bne_iff_ne.mpr c62
     by_cases c64 : t354 = 3
     ·rw [if_pos c64] at H
      have c64b0 : (t354 == 3) = true := beq_iff_eq.mpr c64
      have c64b1 : (t354 != 3) = false := bne_eq_false_iff_eq.mpr c64
      clear c64
      replace H := Option.bind_eq_some_iff.mp H
      obtain ⟨⟨t367, t368, t369⟩, A650, H⟩ := H
      (try dsimp only at H)
      have A65 := Aside0.mk A650
      clear A650
      replace H := Option.bind_eq_some_iff.mp H
      obtain ⟨t370, A660, H⟩ := H
      (try dsimp only at H)
      have A66 := Aside0.mk A660
      clear A660
      simp only [Option.some.injEq, Prod.mk.injEq] at H
      obtain ⟨rfl, rfl, rfl⟩ := H
      go_wp2_with (first | ((with_reducible refine gate_callee (f := 45) rfl ?_); refine gl_ 54 Try.func45 #[.pointer (some ⟨g, 0, none⟩), .int .i64 30] ?_; (with_reducible refine (spec_l1Cur_pick.calls g s0_0 x1001_2 x1002_2 30 t354 t355 t356 w0 _ ?_ ?_ A41.out).mono ?_); exact Z3 HI0.out; exact Z7; rintro e w67 ⟨rfl, hi, hb, hk⟩; refine ⟨_, rfl, ?_⟩; refine k4_ (Kd.R_mono (Kd.R_keep (IsS69.apart (show IsS69 w0 _ g s0_0 x1001_2 x1002_2 from Z3 HI0.out) (Z1 HO_5.out) (by decide)) hk (fun _ h => h.2)) (fun _ h => h.1)) (KeepBut.trans (Z6) hk (.inl rfl)) (hb) (hi) ?_; clear HO_5 HK HB HI0; intro HO_5 HK HB HI0; (try clear hb hk hi)) | ((with_reducible refine gate_callee (f := 45) rfl ?_); refine gl_ 79 Try.func45 #[.pointer (some ⟨g, 0, none⟩), .int .i64 2] ?_; (with_reducible refine (spec_l1Cur_pick.calls g s0_0 t355 t356 2 t367 t368 t369 w0 _ ?_ ?_ A65.out).mono ?_); exact Z3 HI0.out; exact Z7; rintro e w68 ⟨rfl, hi, hb, hk⟩; refine ⟨_, rfl, ?_⟩; refine k4_ (Kd.R_mono (Kd.R_keep (IsS69.apart (show IsS69 w0 _ g s0_0 t355 t356 from Z3 HI0.out) (Z1 HO_5.out) (by decide)) hk (fun _ h => h.2)) (fun _ h => h.1)) (KeepBut.trans (Z6) hk (.inl rfl)) (hb) (hi) ?_; clear HO_5 HK HB HI0; intro HO_5 HK HB HI0; (try clear hb hk hi)) | ((with_reducible refine gate_callee (f := 86) rfl ?_); refine gl_ 81 Try.func86 #[.slice none 0 0, .int .i64 3, .int .i64 (wrap64 (60 + t367))] ?_; (refine (spec_scMake.calls k2 _ _ ([] : List (S90)) 3 (wrap64 (60 + t367)) t370 _ ?side1 ?side2 A66.out).mono ?_); (case side1 => exact Kd.C_nil _ _); (case side2 => exact Nat.le_refl _); rintro e w69 ⟨v371, rfl, ho0, hb⟩; refine ⟨_, rfl, ?_⟩; refine k5_ (Kd.R_elder' (Z1 HO_5.out) (Kd.R_base ho0) hb) (Kd.R_lower (Kd.R_new' ho0 (Kd.R_lt (Z1 HO_5.out))) (keep_size (w := w) (g := g) (row := none) (Z6))) (IsS69.below (Z3 HI0.out) hb) (KeepBut.trans (Z6) (KeepBut.of_below hb g none) (.inl rfl)) (below_step (Z7) hb) ?_; clear HO_5 HI0 HK HB; intro HO_5 HO372 HI0 HK HB; (try clear hb ho0)))
      go_ret
      exact ⟨_, Z11, Z50 HO372.out, Z3 HI0.out, Z7, Z6⟩
     rw [if_neg c64] at H
     have c64b0 : (t354 == 3) = false := beq_eq_false_iff_ne.mpr c64
     have c64b1 : (t354 != 3) = true := bne_iff_ne.mpr c64
     by_cases c70 : t354 = 4
     ·rw [if_pos c70] at H
      have c70b0 : (t354 == 4) = true := beq_iff_eq.mpr c70
      have c70b1 : (t354 != 4) = false := bne_eq_false_iff_eq.mpr c70
      clear c70
      replace H := Option.bind_eq_some_iff.mp H
      obtain ⟨⟨t373, t374, t375⟩, A710, H⟩ := H
      (try dsimp only at H)
      have A71 := Aside0.mk A710
      clear A710
      replace H := Option.bind_eq_some_iff.mp H
      obtain ⟨t376, A720, H⟩ := H
      (try dsimp only at H)
      have A72 := Aside0.mk A720
      clear A720
      simp only [Option.some.injEq, Prod.mk.injEq] at H
      obtain ⟨rfl, rfl, rfl⟩ := H
      go_wp2_with (first | ((with_reducible refine gate_callee (f := 45) rfl ?_); refine gl_ 54 Try.func45 #[.pointer (some ⟨g, 0, none⟩), .int .i64 30] ?_; (with_reducible refine (spec_l1Cur_pick.calls g s0_0 x1001_2 x1002_2 30 t354 t355 t356 w0 _ ?_ ?_ A41.out).mono ?_); exact Z3 HI0.out; exact Z7; rintro e w73 ⟨rfl, hi, hb, hk⟩; refine ⟨_, rfl, ?_⟩; refine k4_ (Kd.R_mono (Kd.R_keep (IsS69.apart (show IsS69 w0 _ g s0_0 x1001_2 x1002_2 from Z3 HI0.out) (Z1 HO_5.out) (by decide)) hk (fun _ h => h.2)) (fun _ h => h.1)) (KeepBut.trans (Z6) hk (.inl rfl)) (hb) (hi) ?_; clear HO_5 HK HB HI0; intro HO_5 HK HB HI0; (try clear hb hk hi)) | ((with_reducible refine gate_callee (f := 45) rfl ?_); refine gl_ 85 Try.func45 #[.pointer (some ⟨g, 0, none⟩), .int .i64 2] ?_; (with_reducible refine (spec_l1Cur_pick.calls g s0_0 t355 t356 2 t373 t374 t375 w0 _ ?_ ?_ A71.out).mono ?_); exact Z3 HI0.out; exact Z7; rintro e w74 ⟨rfl, hi, hb, hk⟩; refine ⟨_, rfl, ?_⟩; refine k4_ (Kd.R_mono (Kd.R_keep (IsS69.apart (show IsS69 w0 _ g s0_0 t355 t356 from Z3 HI0.out) (Z1 HO_5.out) (by decide)) hk (fun _ h => h.2)) (fun _ h => h.1)) (KeepBut.trans (Z6) hk (.inl rfl)) (hb) (hi) ?_; clear HO_5 HK HB HI0; intro HO_5 HK HB HI0; (try clear hb hk hi)) | ((with_reducible refine gate_callee (f := 86) rfl ?_); refine gl_ 87 Try.func86 #[.slice none 0 0, .int .i64 (wrap64 (20 + t373)), .int .i64 2] ?_; (refine (spec_scMake.calls k2 _ _ ([] : List (S90)) (wrap64 (20 + t373)) 2 t376 _ ?side1 ?side2 A72.out).mono ?_); (case side1 => exact Kd.C_nil _ _); (case side2 => exact Nat.le_refl _); rintro e w75 ⟨v377, rfl, ho0, hb⟩; refine ⟨_, rfl, ?_⟩; refine k5_ (Kd.R_elder' (Z1 HO_5.out) (Kd.R_base ho0) hb) (Kd.R_lower (Kd.R_new' ho0 (Kd.R_lt (Z1 HO_5.out))) (keep_size (w := w) (g := g) (row := none) (Z6))) (IsS69.below (Z3 HI0.out) hb) (KeepBut.trans (Z6) (KeepBut.of_below hb g none) (.inl rfl)) (below_step (Z7) hb) ?_; clear HO_5 HI0 HK HB; intro HO_5 HO378 HI0 HK HB; (try clear hb ho0)))
      go_ret
      exact ⟨_, Z11, Z50 HO378.out, Z3 HI0.out, Z7, Z6⟩
     rw [if_neg c70] at H
     have c70b0 : (t354 == 4) = false := beq_eq_false_iff_ne.mpr c70
     have c70b1 : (t354 != 4) = true := bne_iff_ne.mpr c70
     simp only [Option.some.injEq, Prod.mk.injEq] at H
     obtain ⟨rfl, rfl, rfl⟩ := H
     go_wp2_with (first | ((with_reducible refine gate_callee (f := 45) rfl ?_); refine gl_ 54 Try.func45 #[.pointer (some ⟨g, 0, none⟩), .int .i64 30] ?_; (with_reducible refine (spec_l1Cur_pick.calls g s0_0 x1001_2 x1002_2 30 t354 t355 t356 w0 _ ?_ ?_ A41.out).mono ?_); exact Z3 HI0.out; exact Z7; rintro e w76 ⟨rfl, hi, hb, hk⟩; refine ⟨_, rfl, ?_⟩; refine k4_ (Kd.R_mono (Kd.R_keep (IsS69.apart (show IsS69 w0 _ g s0_0 x1001_2 x1002_2 from Z3 HI0.out) (Z1 HO_5.out) (by decide)) hk (fun _ h => h.2)) (fun _ h => h.1)) (KeepBut.trans (Z6) hk (.inl rfl)) (hb) (hi) ?_; clear HO_5 HK HB HI0; intro HO_5 HK HB HI0; (try clear hb hk hi)))
     go_ret
     exact ⟨_, Z11, Z1 HO_5.out, Z3 HI0.out, Z7, Z6⟩

/-! ### spec_DrawStainScan: function 6 -/
def spec_DrawStainScan.f (k : Nat) (l0 : List Int) : Option (List ByteArray × Int × Int × Int) := (spec_l1Cur_scan.f k l0 0 0).bind fun bt380 => ((spec_l1Cur_pick.f l0 bt380.2.1 bt380.2.2 16).bind fun bt385 => ((spec_l1Cur_pick.f l0 bt385.2.1 bt385.2.2 (wrap64 ((bt380.1.length : Int) + (wrap64 (Int.tdiv bt385.1 15))))).bind fun bt388 => ((spec_l1Cur_pick.f l0 bt388.2.1 bt388.2.2 24).bind fun bt391 => ((spec_l1Cur_pick.f l0 bt391.2.1 bt391.2.2 9).bind fun bt394 => ((spec_l1Cur_pick.f l0 bt394.2.1 bt394.2.2 24).bind fun bt397 => ((spec_l1Cur_among.f l0 bt397.2.1 bt397.2.2 (([0, 11] : List Int))).bind fun bt403 => ((spec_l1Cur_among.f l0 bt403.2.1 bt403.2.2 (([1, 2, 3, 10, bt403.1] : List Int))).bind fun bt409 => (some (bt380.1, wrap64 (bt388.1 - (wrap64 (Int.tdiv bt391.1 23))), wrap64 (bt394.1 - (wrap64 (Int.tdiv bt397.1 23))), bt409.1)))))))))
theorem spec_DrawStainScan.mono : ∀ a0 k, LeO (spec_DrawStainScan.f k a0) (spec_DrawStainScan.f (k + 1) a0) := by
 intro a0 k
 unfold spec_DrawStainScan.f
 exact mo6_
set_option maxHeartbeats 8000000 in
set_option maxRecDepth 100000 in
theorem spec_DrawStainScan.calls (k : Nat) (A0 : Option Addr) (c0 : Nat) (l0 : List Int) (r1 : List ByteArray) (r2 : Int) (r3 : Int) (r4 : Int) (w : World) (hr0 : Kd.C (Kd.int .u8) w A0 l0.length l0) (hc0 : l0.length ≤ c0) (h : spec_DrawStainScan.f k l0 = some (r1, r2, r3, r4)) :
  Calls Try.prog 6 #[.slice A0 l0.length c0] w fun e w' => ∃ v0_ : Value, e = .returned (.tuple #[v0_, .int .i64 r2, .int .i64 r3, .int .i64 r4]) ∧ Kd.R Kd.string 9 w' w.heap.size (fun _ => True) v0_ r1 ∧ Below w.heap.size w w' := by
 have hu69 := Try.underlying69
 have HR0 := Aside0.mk hr0
 have HC0 := Aside0.mk hc0
 clear hr0 hc0
 have HB := Aside0.mk (Below.refl w.heap.size w)
 have H : ((spec_l1Cur_scan.f k l0 0 0).bind fun bt380 => ((spec_l1Cur_pick.f l0 bt380.2.1 bt380.2.2 16).bind fun bt385 => ((spec_l1Cur_pick.f l0 bt385.2.1 bt385.2.2 (wrap64 ((bt380.1.length : Int) + (wrap64 (Int.tdiv bt385.1 15))))).bind fun bt388 => ((spec_l1Cur_pick.f l0 bt388.2.1 bt388.2.2 24).bind fun bt391 => ((spec_l1Cur_pick.f l0 bt391.2.1 bt391.2.2 9).bind fun bt394 => ((spec_l1Cur_pick.f l0 bt394.2.1 bt394.2.2 24).bind fun bt397 => ((spec_l1Cur_among.f l0 bt397.2.1 bt397.2.2 (([0, 11] : List Int))).bind fun bt403 => ((spec_l1Cur_among.f l0 bt403.2.1 bt403.2.2 (([1, 2, 3, 10, bt403.1] : List Int))).bind fun bt409 => (some (bt380.1, wrap64 (bt388.1 - (wrap64 (Int.tdiv bt391.1 23))), wrap64 (bt394.1 - (wrap64 (Int.tdiv bt397.1 23))), bt409.1)))))))))) = some (r1, r2, r3, r4) := h
 clear h
 replace H := Option.bind_eq_some_iff.mp H
 obtain ⟨⟨t380, t383, t384⟩, A20, H⟩ := H
 (try dsimp only at H)
 have A2 := Aside0.mk A20
 clear A20
 replace H := Option.bind_eq_some_iff.mp H
 obtain ⟨⟨t385, t386, t387⟩, A30, H⟩ := H
 (try dsimp only at H)
 have A3 := Aside0.mk A30
 clear A30
 replace H := Option.bind_eq_some_iff.mp H
 obtain ⟨⟨t388, t389, t390⟩, A40, H⟩ := H
 (try dsimp only at H)
 have A4 := Aside0.mk A40
 clear A40
 replace H := Option.bind_eq_some_iff.mp H
 obtain ⟨⟨t391, t392, t393⟩, A50, H⟩ := H
 (try dsimp only at H)
 have A5 := Aside0.mk A50
 clear A50
 replace H := Option.bind_eq_some_iff.mp H
 obtain ⟨⟨t394, t395, t396⟩, A60, H⟩ := H
 (try dsimp only at H)
 have A6 := Aside0.mk A60
 clear A60
 replace H := Option.bind_eq_some_iff.mp H
 obtain ⟨⟨t397, t398, t399⟩, A70, H⟩ := H
 (try dsimp only at H)
 have A7 := Aside0.mk A70
 clear A70
 obtain ⟨y400, hy400⟩ : ∃ y_ : List Int, y_ = (([0, 11] : List Int)) := ⟨_, rfl⟩
 replace H : ((spec_l1Cur_among.f l0 t398 t399 y400).bind fun bt403 => ((spec_l1Cur_among.f l0 bt403.2.1 bt403.2.2 (([1, 2, 3, 10, bt403.1] : List Int))).bind fun bt409 => (some (t380, wrap64 (t388 - (wrap64 (Int.tdiv t391 23))), wrap64 (t394 - (wrap64 (Int.tdiv t397 23))), bt409.1)))) = some (r1, r2, r3, r4) := by first | (rw [hy400]; with_reducible exact H) | (have H2_ := (Option.bind_some _ _).symm.trans H; rw [hy400]; with_reducible exact H2_) | (have H2_ := (Option.bind_some _ _).symm.trans H; with_reducible exact H2_) | with_reducible exact H | (rw [hy400]; exact H) | exact H
 have Ny400 := Aside0.mk hy400
 clear hy400
 replace H := Option.bind_eq_some_iff.mp H
 obtain ⟨⟨t403, t404, t405⟩, A80, H⟩ := H
 (try dsimp only at H)
 have A8 := Aside0.mk A80
 clear A80
 obtain ⟨y406, hy406⟩ : ∃ y_ : List Int, y_ = (([1, 2, 3, 10, t403] : List Int)) := ⟨_, rfl⟩
 replace H : ((spec_l1Cur_among.f l0 t404 t405 y406).bind fun bt409 => (some (t380, wrap64 (t388 - (wrap64 (Int.tdiv t391 23))), wrap64 (t394 - (wrap64 (Int.tdiv t397 23))), bt409.1))) = some (r1, r2, r3, r4) := by first | (rw [hy406]; with_reducible exact H) | (have H2_ := (Option.bind_some _ _).symm.trans H; rw [hy406]; with_reducible exact H2_) | (have H2_ := (Option.bind_some _ _).symm.trans H; with_reducible exact H2_) | with_reducible exact H | (rw [hy406]; exact H) | exact H
 have Ny406 := Aside0.mk hy406
 clear hy406
 replace H := Option.bind_eq_some_iff.mp H
 obtain ⟨⟨t409, t410, t411⟩, A90, H⟩ := H
 (try dsimp only at H)
 have A9 := Aside0.mk A90
 clear A90
 simp only [Option.some.injEq, Prod.mk.injEq] at H
 obtain ⟨rfl, rfl, rfl, rfl⟩ := H
 go_enter Try.func6, Try.ntmps6
 go_wp2_with (first | ((with_reducible refine gate_dst (N := 12) rfl ?_); refine bv_ 12 69 #[.slice A0 l0.length c0, .int .i64 0, .int .u64 0] ?_; intro gb379 hg w10 hbox hb; refine k4_ (below_step (Z2) hb) ((show IsS69 w w10 gb379 l0 0 0 from ⟨_, _, hbox, (Z34), HR0.out⟩)) ((Z34 : w.heap.size ≤ gb379)) ((Z34 : w.heap.size ≤ gb379)) ?_; clear HB; intro HB HI379 GW379 GE379; clear hb hbox hg) | ((with_reducible refine gate_callee (f := 44) rfl ?_); refine gl_ 14 Try.func44 #[.pointer (some ⟨gb379, 0, none⟩)] ?_; (with_reducible refine (spec_l1Cur_scan.calls k gb379 l0 0 0 t380 t383 t384 w _ ?_ ?_ A2.out).mono ?_); exact Z3 HI379.out; exact Z28; rintro e w11 ⟨v381, rfl, ho0, hi, hb, hk⟩; refine ⟨_, rfl, ?_⟩; refine k3_ (Kd.R_lower ho0 (below_size (Z28))) (hb) (hi) ?_; clear HB HI379; intro HO382 HB HI379; (try clear hb hk hi ho0); obtain ⟨Ao12, co12, eo12⟩ := Kd.R_slice HO382.out; subst eo12) | ((with_reducible refine gate_callee (f := 45) rfl ?_); refine gl_ 19 Try.func45 #[.pointer (some ⟨gb379, 0, none⟩), .int .i64 16] ?_; (with_reducible refine (spec_l1Cur_pick.calls gb379 l0 t383 t384 16 t385 t386 t387 w _ ?_ ?_ A3.out).mono ?_); exact Z3 HI379.out; exact Z28; rintro e w13 ⟨rfl, hi, hb, hk⟩; refine ⟨_, rfl, ?_⟩; refine k3_ (Kd.R_mono (Kd.R_keep (IsS69.apart (show IsS69 w _ gb379 l0 t383 t384 from Z3 HI379.out) (Z1 HO382.out) (by decide)) hk (fun _ h => h.2)) (fun _ h => h.1)) (hb) (hi) ?_; clear HO382 HB HI379; intro HO382 HB HI379; (try clear hb hk hi)) | ((with_reducible refine gate_callee (f := 45) rfl ?_); refine gl_ 22 Try.func45 #[.pointer (some ⟨gb379, 0, none⟩), .int .i64 (wrap64 ((t380.length : Int) + (wrap64 (Int.tdiv t385 15))))] ?_; (with_reducible refine (spec_l1Cur_pick.calls gb379 l0 t386 t387 (wrap64 ((t380.length : Int) + (wrap64 (Int.tdiv t385 15)))) t388 t389 t390 w _ ?_ ?_ A4.out).mono ?_); exact Z3 HI379.out; exact Z28; rintro e w14 ⟨rfl, hi, hb, hk⟩; refine ⟨_, rfl, ?_⟩; refine k3_ (Kd.R_mono (Kd.R_keep (IsS69.apart (show IsS69 w _ gb379 l0 t386 t387 from Z3 HI379.out) (Z1 HO382.out) (by decide)) hk (fun _ h => h.2)) (fun _ h => h.1)) (hb) (hi) ?_; clear HO382 HB HI379; intro HO382 HB HI379; (try clear hb hk hi)) | ((with_reducible refine gate_callee (f := 45) rfl ?_); refine gl_ 24 Try.func45 #[.pointer (some ⟨gb379, 0, none⟩), .int .i64 24] ?_; (with_reducible refine (spec_l1Cur_pick.calls gb379 l0 t389 t390 24 t391 t392 t393 w _ ?_ ?_ A5.out).mono ?_); exact Z3 HI379.out; exact Z28; rintro e w15 ⟨rfl, hi, hb, hk⟩; refine ⟨_, rfl, ?_⟩; refine k3_ (Kd.R_mono (Kd.R_keep (IsS69.apart (show IsS69 w _ gb379 l0 t389 t390 from Z3 HI379.out) (Z1 HO382.out) (by decide)) hk (fun _ h => h.2)) (fun _ h => h.1)) (hb) (hi) ?_; clear HO382 HB HI379; intro HO382 HB HI379; (try clear hb hk hi)) | ((with_reducible refine gate_callee (f := 45) rfl ?_); refine gl_ 28 Try.func45 #[.pointer (some ⟨gb379, 0, none⟩), .int .i64 9] ?_; (with_reducible refine (spec_l1Cur_pick.calls gb379 l0 t392 t393 9 t394 t395 t396 w _ ?_ ?_ A6.out).mono ?_); exact Z3 HI379.out; exact Z28; rintro e w16 ⟨rfl, hi, hb, hk⟩; refine ⟨_, rfl, ?_⟩; refine k3_ (Kd.R_mono (Kd.R_keep (IsS69.apart (show IsS69 w _ gb379 l0 t392 t393 from Z3 HI379.out) (Z1 HO382.out) (by decide)) hk (fun _ h => h.2)) (fun _ h => h.1)) (hb) (hi) ?_; clear HO382 HB HI379; intro HO382 HB HI379; (try clear hb hk hi)) | ((with_reducible refine gate_callee (f := 45) rfl ?_); refine gl_ 30 Try.func45 #[.pointer (some ⟨gb379, 0, none⟩), .int .i64 24] ?_; (with_reducible refine (spec_l1Cur_pick.calls gb379 l0 t395 t396 24 t397 t398 t399 w _ ?_ ?_ A7.out).mono ?_); exact Z3 HI379.out; exact Z28; rintro e w17 ⟨rfl, hi, hb, hk⟩; refine ⟨_, rfl, ?_⟩; refine k3_ (Kd.R_mono (Kd.R_keep (IsS69.apart (show IsS69 w _ gb379 l0 t395 t396 from Z3 HI379.out) (Z1 HO382.out) (by decide)) hk (fun _ h => h.2)) (fun _ h => h.1)) (hb) (hi) ?_; clear HO382 HB HI379; intro HO382 HB HI379; (try clear hb hk hi)) | ((with_reducible refine gate_dst (N := 38) rfl ?_); refine Kd.R_lit (Kd.int .i64) _ 3 ?hg (N := 38) ?hd (xs := ([0, 11] : List Int)) (inner := [.int .i64 0, .int .i64 11]) (ok := fun _ => True) (okp := fun _ => True) ?hr ?hp (fun _ hk => hk) trivial (Below.refl _ _) (Nat.le_refl _) (by simp) ?_; (case hd => rfl); (case hg => rfl); (case hr => exact Z44); (case hp => exact (Reps.one (show Kd.M (Kd.int .i64) _ _ _ 0 [.int .i64 0] from rfl) (Reps.one (show Kd.M (Kd.int .i64) _ _ _ 11 [.int .i64 11] from rfl) (Reps.none _ _)))); intro v401 w18 ho19 hb hg_ hnew_; clear hg_ hnew_; (first | rw [← Ny400.out] at ho19 | (simp only [Int.reduceToNat] at ho19; rw [← Ny400.out] at ho19)); refine k4_ (Kd.R_below (Z1 HO382.out) hb) (Kd.R_lower ho19 (below_size (Z28))) (IsS69.below (Z3 HI379.out) hb) (below_step (Z28) hb) ?_; clear HO382 HI379 HB; intro HO382 HO402 HI379 HB; clear hb ho19; obtain ⟨Ao20, co20, eo20⟩ := Kd.R_slice HO402.out; subst eo20) | ((with_reducible refine gate_callee (f := 46) rfl ?_); refine gl_ 39 Try.func46 #[.pointer (some ⟨gb379, 0, none⟩), .slice Ao20 y400.length co20] ?_; (with_reducible refine (spec_l1Cur_among.calls gb379 l0 t398 t399 _ _ y400 t403 t404 t405 w _ ?_ ?_ ?_ ?_ ?_ A8.out).mono ?_); exact Z3 HI379.out; exact Z28; exact Z5 HO402.out; exact (Kd.R_reads' HO402.out).2.1; exact far_slice (IsS69.own_ne HI379.out HO402.out (by decide)); rintro e w21 ⟨rfl, hi, hb, hk⟩; refine ⟨_, rfl, ?_⟩; refine k4_ (Kd.R_mono (Kd.R_keep (IsS69.apart (show IsS69 w _ gb379 l0 t398 t399 from Z3 HI379.out) (Z1 HO382.out) (by decide)) hk (fun _ h => h.2)) (fun _ h => h.1)) (Kd.R_mono (Kd.R_keep (IsS69.apart (show IsS69 w _ gb379 l0 t398 t399 from Z3 HI379.out) (Z1 HO402.out) (by decide)) hk (fun _ h => h.2)) (fun _ h => h.1)) (hb) (hi) ?_; clear HO382 HO402 HB HI379; intro HO382 HO402 HB HI379; (try clear hb hk hi)) | ((with_reducible refine gate_dst (N := 40) rfl ?_); refine Kd.R_lit (Kd.int .i64) _ 3 ?hg (N := 40) ?hd (xs := ([1, 2, 3, 10, t403] : List Int)) (inner := [.int .i64 1, .int .i64 2, .int .i64 3, .int .i64 10, .int .i64 t403]) (ok := fun _ => True) (okp := fun _ => True) ?hr ?hp (fun _ hk => hk) trivial (Below.refl _ _) (Nat.le_refl _) (by simp) ?_; (case hd => rfl); (case hg => rfl); (case hr => exact Z44); (case hp => exact (Reps.one (show Kd.M (Kd.int .i64) _ _ _ 1 [.int .i64 1] from rfl) (Reps.one (show Kd.M (Kd.int .i64) _ _ _ 2 [.int .i64 2] from rfl) (Reps.one (show Kd.M (Kd.int .i64) _ _ _ 3 [.int .i64 3] from rfl) (Reps.one (show Kd.M (Kd.int .i64) _ _ _ 10 [.int .i64 10] from rfl) (Reps.one (show Kd.M (Kd.int .i64) _ _ _ t403 [.int .i64 t403] from rfl) (Reps.none _ _))))))); intro v407 w22 ho23 hb hg_ hnew_; clear hg_ hnew_; (first | rw [← Ny406.out] at ho23 | (simp only [Int.reduceToNat] at ho23; rw [← Ny406.out] at ho23)); refine k5_ (Kd.R_below (Z1 HO382.out) hb) (Kd.R_elder' (Z1 HO402.out) (Kd.R_base ho23) hb) (Kd.R_lower (Kd.R_new' ho23 (Kd.R_lt (Z1 HO402.out))) (below_size (Z28))) (IsS69.below (Z3 HI379.out) hb) (below_step (Z28) hb) ?_; clear HO382 HO402 HI379 HB; intro HO382 HO402 HO408 HI379 HB; clear hb ho23; obtain ⟨Ao24, co24, eo24⟩ := Kd.R_slice HO408.out; subst eo24) | ((with_reducible refine gate_callee (f := 46) rfl ?_); refine gl_ 41 Try.func46 #[.pointer (some ⟨gb379, 0, none⟩), .slice Ao24 y406.length co24] ?_; (with_reducible refine (spec_l1Cur_among.calls gb379 l0 t404 t405 _ _ y406 t409 t410 t411 w _ ?_ ?_ ?_ ?_ ?_ A9.out).mono ?_); exact Z3 HI379.out; exact Z28; exact Z5 HO408.out; exact (Kd.R_reads' HO408.out).2.1; exact far_slice (IsS69.own_ne HI379.out HO408.out (by decide)); rintro e w25 ⟨rfl, hi, hb, hk⟩; refine ⟨_, rfl, ?_⟩; refine k5_ (Kd.R_mono (Kd.R_keep (IsS69.apart (show IsS69 w _ gb379 l0 t404 t405 from Z3 HI379.out) (Z1 HO382.out) (by decide)) hk (fun _ h => h.2)) (fun _ h => h.1)) (Kd.R_mono (Kd.R_keep (IsS69.apart (show IsS69 w _ gb379 l0 t404 t405 from Z3 HI379.out) (Z1 HO402.out) (by decide)) hk (fun _ h => h.2)) (fun _ h => h.1)) (Kd.R_mono (Kd.R_keep (IsS69.apart (show IsS69 w _ gb379 l0 t404 t405 from Z3 HI379.out) (Z1 HO408.out) (by decide)) hk (fun _ h => h.2)) (fun _ h => h.1)) (hb) (hi) ?_; clear HO382 HO402 HO408 HB HI379; intro HO382 HO402 HO408 HB HI379; (try clear hb hk hi)))
 refine bodyPost_ret (results_list (rs := [.tmp 2, .tmp 3, .tmp 4, .tmp 5]) rfl (by simp) (.tmp (.tmp (.tmp (.tmp .nil))))) rfl ?_
 exact ⟨_, Z11, Z1 HO382.out, Z28⟩

/-! ### strings_IndexByte: function 113: by this session -/
def strings_IndexByte.f (a0 : ByteArray) (a1 : Int) : Option (Int) := some (Go.Lib.indexByte a0.data.toList a1.toNat.toUInt8)
set_option maxHeartbeats 1000000 in
set_option maxRecDepth 100000 in
theorem strings_IndexByte.calls (a0 : ByteArray) (a1 : Int) (r : Int) (w : World) (h : strings_IndexByte.f a0 a1 = some r) :
  Calls Try.prog 113 #[.string a0, .int .u8 a1] w fun e w' => e = .returned (.int .i64 r) ∧ Drawn0 w w' := by
 obtain rfl := Option.some.inj h
 clear h
 go_enter Try.func113, Try.ntmps113
 go_wp2
 rw [run_callFunc_extern Try.func141 (by kernel_rfl) (by kernel_rfl) (by kernel_rfl) (e := Extern.BytealgIndexByte.indexByte) (by kernel_rfl), Lib.run_indexByteString]
 simp only [Result.andThen]
 rw [Oper.upon_value]
 go_wp2
 go_ret
 exact ⟨rfl, Drawn0.refl _⟩

end Go.Proofs.Ytmnnmddfmmaohaa.PFnStains
