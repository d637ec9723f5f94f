-- written by a program of this session: the kit's print, with outer functions of the session's own (wip/ext)
import Derived.Test.YtdipcpcbclobpaaDoorPFnPinsx0
import Derived.Test.YtdipcpcbclobpaaDoorPFnPinsx3
import Derived.Test.YtdipcpcbclobpaaDoorPFnPinsx14
namespace Go.Proofs.YtdipcpcbclobpaaDoor.PFnPins
open Go.RowKit Go.Proofs.YtdipcpcbclobpaaDoorW.PrintWords Go.Proofs.YtdipcpcbclobpaaDoorW.PrintLast Go.Proofs.YtdipcpcbclobpaaDoorW.PrintMore
attribute [local go_sem] max2_int min2_int max_two min_two max_three min_three max_four min_four   -- for this text's walks alone
set_option linter.unusedVariables false
set_option linter.unusedSimpArgs false
theorem mo15_ {p : Prop} (h : p := by repeat' first | (with_reducible first | apply ih0 | apply ih0 | apply spec_cyGood.mono | apply spec_cyGood.mono | apply spec_l1Num.mono | apply spec_l1Num.mono | exact LeO.refl _ | exact LeO.none _ | refine LeO.ite ?_ ?_ | refine LeO.bind ?_ (fun _ => ?_)) | exact LeO.none _ | refine LeO.ite ?_ ?_ | refine LeO.bind ?_ (fun _ => ?_)) : p := h

/-! ### spec_PinsText: function 26 -/
def spec_PinsText.l0 : Nat → ByteArray → List (S33) → Int → Int → Option (ByteArray × Bool)
 | 0, _, _, _, _ => none
 | k + 1, x4, x10, x11, x12 => if x12 < x11 then (if 0 ≤ x12 then (if x12 < (x10.length : Int) then ((spec_l1Num.f k ((rd_T33 x10 x12).f2)).bind fun co => (if co.size + 1 ≤ 9223372036854775807 then ((spec_l1Num.f k ((rd_T33 x10 x12).f1)).bind fun cI => (if (co ++ (⟨#[32]⟩ : ByteArray)).size + cI.size ≤ 9223372036854775807 then (if ((co ++ (⟨#[32]⟩ : ByteArray)) ++ cI).size + 1 ≤ 9223372036854775807 then ((spec_l1Num.f k ((rd_T33 x10 x12).f0)).bind fun dk => (if (((co ++ (⟨#[32]⟩ : ByteArray)) ++ cI) ++ (⟨#[32]⟩ : ByteArray)).size + dk.size ≤ 9223372036854775807 then (if ((((co ++ (⟨#[32]⟩ : ByteArray)) ++ cI) ++ (⟨#[32]⟩ : ByteArray)) ++ dk).size + 1 ≤ 9223372036854775807 then (if x4.size + (((((co ++ (⟨#[32]⟩ : ByteArray)) ++ cI) ++ (⟨#[32]⟩ : ByteArray)) ++ dk) ++ (⟨#[10]⟩ : ByteArray)).size ≤ 9223372036854775807 then (spec_PinsText.l0 k (x4 ++ (((((co ++ (⟨#[32]⟩ : ByteArray)) ++ cI) ++ (⟨#[32]⟩ : ByteArray)) ++ dk) ++ (⟨#[10]⟩ : ByteArray))) x10 x11 (wrap64 (x12 + 1))) else (none)) else (none)) else (none))) else (none)) else (none))) else (none))) else (none)) else (none)) else (some (x4, true))
def spec_PinsText.f (k : Nat) (l0 : List (S33)) : Option (ByteArray × Bool) := (spec_cyGood.f k l0).bind fun pD => (if pD = true then (spec_PinsText.l0 k (⟨#[]⟩ : ByteArray) l0 (l0.length : Int) 0) else (some ((⟨#[]⟩ : ByteArray), false)))
theorem spec_PinsText.mono_l : ∀ k, (∀ y0 y1 y2 y3, LeO (spec_PinsText.l0 k y0 y1 y2 y3) (spec_PinsText.l0 (k + 1) y0 y1 y2 y3))
 | 0 => fun _ _ _ _ r h => by simp [spec_PinsText.l0] at h
 | k + 1 => by
  have ih0 := spec_PinsText.mono_l k
  ·intro y0 y1 y2 y3
   unfold spec_PinsText.l0
   exact mo15_
theorem spec_PinsText.mono : ∀ a0 k, LeO (spec_PinsText.f k a0) (spec_PinsText.f (k + 1) a0) := by
 intro a0 k
 have ih0 := spec_PinsText.mono_l k
 unfold spec_PinsText.f
 exact mo15_
def spec_PinsText.T7 : Bool × List (List Nat × List Nat) := (true, [([], []), ([], []), ([1], [1]), ([2], [2]), ([3], [3]), ([], []), ([5], [5]), ([6, 3], [6]), ([4, 7], [4, 7]), ([8], [8]), ([], []), ([10], [10]), ([11, 7], [11]), ([9, 12], [9, 12]), ([13], [13]), ([0, 14], [0, 14]), ([15, 12, 0, 1, 2, 3, 4, 5, 6, 7, 8, 9, 10, 11, 12, 13, 14, 15], [0, 15])])
def spec_PinsText.B7 : List Nat := [0, 0, 2, 6, 14, 0, 32, 110, 254, 510, 0, 1024, 3310, 8190, 16382, 32767, 65535]
theorem spec_PinsText.tab7 : rtab .any (opsOf Tryd.f26 7) = spec_PinsText.T7 := by kernel_rfl
theorem spec_PinsText.bits7 : waitsOk spec_PinsText.T7.2 spec_PinsText.B7 = true := by kernel_rfl
set_option maxHeartbeats 8000000 in
set_option maxRecDepth 100000 in
theorem spec_PinsText.calls (k : Nat) (A0 : Option Addr) (c0 : Nat) (l0 : List (S33)) (r1 : ByteArray) (r2 : Bool) (w : World) (hr0 : Kd.C k33 w A0 l0.length l0) (hc0 : l0.length ≤ c0) (h : spec_PinsText.f k l0 = some (r1, r2)) :
  Calls Tryd.prog 26 #[.slice A0 l0.length c0] w fun e w' => e = .returned (.tuple #[.string r1, .bool r2]) ∧ Below w.heap.size w w' := by
 have hu33 := Tryd.underlying33
 have HR0 := Aside0.mk hr0
 have HC0 := Aside0.mk hc0
 clear hr0 hc0
 have HB := Aside0.mk (Below.refl w.heap.size w)
 have H : ((spec_cyGood.f k l0).bind fun pD => (if pD = true then (spec_PinsText.l0 k (⟨#[]⟩ : ByteArray) l0 (l0.length : Int) 0) else (some ((⟨#[]⟩ : ByteArray), false)))) = some (r1, r2) := h
 clear h
 replace H := Option.bind_eq_some_iff.mp H
 obtain ⟨pD, cr, H⟩ := H
 (try dsimp only at H)
 have A2 := Aside0.mk cr
 clear cr
 by_cases c3 : pD = true
 ·subst c3
  rw [if_pos rfl] at H
  have H' := Aside0.mk H
  clear H
  go_enter Tryd.func26, Tryd.ntmps26
  go_wp2_with (first | ((with_reducible refine gate_callee (f := 33) rfl ?_); refine gl_ 8 Tryd.func33 #[.slice A0 l0.length c0] ?_; (with_reducible refine (spec_cyGood.calls k _ _ l0 true _ ?_ ?_ A2.out).mono ?_); exact (Z17 HR0); exact HC0.out; rintro e w4 ⟨rfl, hb⟩; refine ⟨_, rfl, ?_⟩; refine k1_ (below_step (Z1) hb) ?_; clear HB; intro HB; (try clear hb)))
  (try simp only [Act.put, List.setIfInBounds_toArray, List.set_cons_zero, List.set_cons_succ])
  go_loopg [4, 12] k (fun kq v4 v6 w' => ∃ (au : ByteArray) (an : Int), v4 = .string au ∧ v6 = .int .i64 an ∧ Aside0 (spec_PinsText.l0 kq au l0 (l0.length : Int) an = some (r1, r2)) ∧ Aside0 (kq ≤ k) ∧ Aside0 (Below w.heap.size w w'))
  case atStart => exact ⟨((⟨#[]⟩ : ByteArray)), (0), (Z14), (Z14), H', ⟨Nat.le_refl _⟩, ⟨Z1⟩⟩
  case round =>
   clear H'
   (try clear c2); (try clear p2); (try clear c3)
   obtain ⟨au, an, rfl, rfl, HA, HK1, HB⟩ := hrel
   cases gk with
   | zero => exact absurd HA.out (by simp [spec_PinsText.l0])
   | succ k1 =>
    have H := HA.out
    clear HA
    simp only [spec_PinsText.l0] at H
    by_cases c5 : an < (l0.length : Int)
    ·rw [if_pos c5] at H
     have e3 : decide (an < (l0.length : Int)) = true := decide_eq_true c5
     clear c5
     by_cases c6 : 0 ≤ an
     ·rw [if_pos c6] at H
      have en : decide (0 ≤ an) = true := decide_eq_true c6
      clear c6
      by_cases c7 : an < (l0.length : Int)
      ·rw [if_pos c7] at H
       have dz : decide (an < (l0.length : Int)) = true := decide_eq_true c7
       clear c7
       replace H := Option.bind_eq_some_iff.mp H
       obtain ⟨co, oS, H⟩ := H
       (try dsimp only at H)
       have A8 := Aside0.mk oS
       clear oS
       by_cases c9 : co.size + 1 ≤ 9223372036854775807
       ·rw [if_pos c9] at H
        have fT := eq_true c9
        have t7 : decide (co.size + 1 ≤ 9223372036854775807) = true := decide_eq_true c9
        try have t8 : (9223372036854775807 < co.size + 1) = False := eq_false (Nat.not_lt.2 c9)
        replace H := Option.bind_eq_some_iff.mp H
        obtain ⟨cI, oT, H⟩ := H
        (try dsimp only at H)
        have ym := Aside0.mk oT
        clear oT
        by_cases c11 : (co ++ (⟨#[32]⟩ : ByteArray)).size + cI.size ≤ 9223372036854775807
        ·rw [if_pos c11] at H
         have c11b0 := eq_true c11
         have c11b1 : decide ((co ++ (⟨#[32]⟩ : ByteArray)).size + cI.size ≤ 9223372036854775807) = true := decide_eq_true c11
         try have c11b2 : (9223372036854775807 < (co ++ (⟨#[32]⟩ : ByteArray)).size + cI.size) = False := eq_false (Nat.not_lt.2 c11)
         try (have sn := c11; simp only [ByteArray.size_append, show (⟨#[32]⟩ : ByteArray).size = 1 from rfl] at sn; have c11b4 := eq_false (Nat.not_lt.2 sn))
         by_cases c12 : ((co ++ (⟨#[32]⟩ : ByteArray)) ++ cI).size + 1 ≤ 9223372036854775807
         ·rw [if_pos c12] at H
          have c12b0 := eq_true c12
          have c12b1 : decide (((co ++ (⟨#[32]⟩ : ByteArray)) ++ cI).size + 1 ≤ 9223372036854775807) = true := decide_eq_true c12
          try have c12b2 : (9223372036854775807 < ((co ++ (⟨#[32]⟩ : ByteArray)) ++ cI).size + 1) = False := eq_false (Nat.not_lt.2 c12)
          try (have so := c12; simp only [ByteArray.size_append, show (⟨#[32]⟩ : ByteArray).size = 1 from rfl] at so; have c12b4 := eq_false (Nat.not_lt.2 so))
          replace H := Option.bind_eq_some_iff.mp H
          obtain ⟨dk, pE, H⟩ := H
          (try dsimp only at H)
          have vU := Aside0.mk pE
          clear pE
          by_cases c14 : (((co ++ (⟨#[32]⟩ : ByteArray)) ++ cI) ++ (⟨#[32]⟩ : ByteArray)).size + dk.size ≤ 9223372036854775807
          ·rw [if_pos c14] at H
           have fh := eq_true c14
           have sq : decide ((((co ++ (⟨#[32]⟩ : ByteArray)) ++ cI) ++ (⟨#[32]⟩ : ByteArray)).size + dk.size ≤ 9223372036854775807) = true := decide_eq_true c14
           try have c14b2 : (9223372036854775807 < (((co ++ (⟨#[32]⟩ : ByteArray)) ++ cI) ++ (⟨#[32]⟩ : ByteArray)).size + dk.size) = False := eq_false (Nat.not_lt.2 c14)
           try (have sr := c14; simp only [ByteArray.size_append, show (⟨#[32]⟩ : ByteArray).size = 1 from rfl] at sr; have c14b4 := eq_false (Nat.not_lt.2 sr))
           by_cases c15 : ((((co ++ (⟨#[32]⟩ : ByteArray)) ++ cI) ++ (⟨#[32]⟩ : ByteArray)) ++ dk).size + 1 ≤ 9223372036854775807
           ·rw [if_pos c15] at H
            have pj := eq_true c15
            have c15b1 : decide (((((co ++ (⟨#[32]⟩ : ByteArray)) ++ cI) ++ (⟨#[32]⟩ : ByteArray)) ++ dk).size + 1 ≤ 9223372036854775807) = true := decide_eq_true c15
            try have c15b2 : (9223372036854775807 < ((((co ++ (⟨#[32]⟩ : ByteArray)) ++ cI) ++ (⟨#[32]⟩ : ByteArray)) ++ dk).size + 1) = False := eq_false (Nat.not_lt.2 c15)
            try (have ss := c15; simp only [ByteArray.size_append, show (⟨#[32]⟩ : ByteArray).size = 1 from rfl] at ss; have c15b4 := eq_false (Nat.not_lt.2 ss))
            by_cases c16 : au.size + (((((co ++ (⟨#[32]⟩ : ByteArray)) ++ cI) ++ (⟨#[32]⟩ : ByteArray)) ++ dk) ++ (⟨#[10]⟩ : ByteArray)).size ≤ 9223372036854775807
            ·rw [if_pos c16] at H
             have na := eq_true c16
             have c16b1 : decide (au.size + (((((co ++ (⟨#[32]⟩ : ByteArray)) ++ cI) ++ (⟨#[32]⟩ : ByteArray)) ++ dk) ++ (⟨#[10]⟩ : ByteArray)).size ≤ 9223372036854775807) = true := decide_eq_true c16
             try have c16b2 : (9223372036854775807 < au.size + (((((co ++ (⟨#[32]⟩ : ByteArray)) ++ cI) ++ (⟨#[32]⟩ : ByteArray)) ++ dk) ++ (⟨#[10]⟩ : ByteArray)).size) = False := eq_false (Nat.not_lt.2 c16)
             try (have st := c16; simp only [ByteArray.size_append, show (⟨#[10]⟩ : ByteArray).size = 1 from rfl, show (⟨#[32]⟩ : ByteArray).size = 1 from rfl] at st; have c16b4 := eq_false (Nat.not_lt.2 st))
             have H' := Aside0.mk H
             clear H
             have uv : 0 ≤ (an : Int) := of_decide_eq_true (Z12)
             have uw : an < (l0.length : Int) := of_decide_eq_true (Z12)
             obtain ⟨ad538, e538, ji, jj, jk⟩ := at_T33 HR0.out an uv uw
             cases e538
             replace ji := (HB.out.cell (World.block_lt_of_cell? w _ ji)).trans ji
             replace jj := (HB.out.cell (World.block_lt_of_cell? w _ jj)).trans jj
             replace jk := (HB.out.cell (World.block_lt_of_cell? w _ jk)).trans jk
             replace uv := eq_true uv
             replace uw := eq_true uw
             try go_wp2_with (first | ((with_reducible refine gate_dst (N := 6) rfl ?_); refine bv_ 6 33 #[.int .i64 0, .int .i64 0, .int .i64 0] ?_; intro cS hg mh hbox hb; refine k4_ (below_step (Z1) hb) (hbox) ((Z23 : w.heap.size ≤ cS)) ((Z23 : w.heap.size ≤ cS)) ?_; clear HB; intro HB bn GW539 GE539; clear hb hbox hg; obtain ⟨nu, nv, nw, nx, ny, nz⟩ := bx3_ (w := mh) bn.out))
             have n0_ : Aside0 ((((mh.setCell ⟨cS, 0, none⟩ (.int .i64 ((rd_T33 l0 an).f0))).setCell ⟨cS, 1, none⟩ (.int .i64 ((rd_T33 l0 an).f1))).setCell ⟨cS, 2, none⟩ (.int .i64 ((rd_T33 l0 an).f2))).heap[cS]? = some (.cells #[.int .i64 ((rd_T33 l0 an).f0), .int .i64 ((rd_T33 l0 an).f1), .int .i64 ((rd_T33 l0 an).f2)] 33 (0, 0))) := ⟨Z32 bn⟩
             have n1_ : Aside0 (Below w.heap.size w (((mh.setCell ⟨cS, 0, none⟩ (.int .i64 ((rd_T33 l0 an).f0))).setCell ⟨cS, 1, none⟩ (.int .i64 ((rd_T33 l0 an).f1))).setCell ⟨cS, 2, none⟩ (.int .i64 ((rd_T33 l0 an).f2)))) := ⟨Z69⟩
             (try clear bn)
             (try clear HB)
             generalize (((mh.setCell ⟨cS, 0, none⟩ (.int .i64 ((rd_T33 l0 an).f0))).setCell ⟨cS, 1, none⟩ (.int .i64 ((rd_T33 l0 an).f1))).setCell ⟨cS, 2, none⟩ (.int .i64 ((rd_T33 l0 an).f2))) = jO at n0_ n1_ ⊢
             have bn := n0_
             have HB := n1_
             clear n0_ n1_
             refine k2_ (blk_drew bn.out) (below_drew1 HB.out) ?_
             clear bn HB
             intro bn HB
             refine start_ (n := 17) (S := fun w' => w'.cell? ⟨cS, 0, none⟩ = some (.int .i64 ((rd_T33 l0 an).f0)) ∧ w'.cell? ⟨cS, 1, none⟩ = some (.int .i64 ((rd_T33 l0 an).f1)) ∧ w'.cell? ⟨cS, 2, none⟩ = some (.int .i64 ((rd_T33 l0 an).f2))) (ds := []) (M_ 0 17) (by kernel_rfl) rfl rfl ⟨(blk_cell bn.out 0).trans rfl, (blk_cell bn.out 1).trans rfl, (blk_cell bn.out 2).trans rfl⟩ (fun hHeld => ?_); refine with_tabW spec_PinsText.tab7 spec_PinsText.bits7 (fun HT_ HW_ => ?_)
             generalize jO.drew = qS at bn HB hHeld ⊢
             refine pu_ 0 16 (M_ 1 16) ?_
             refine pu_ 1 17 (M_ 2 15) ?_
             refine pu_ 5 21 (N_ 17 35) ?_
             refine pu_ 10 26 (N_ 17 1059) ?_
             refine tk3_ 2 18 (N_ 17 1063) hHeld ?_
             refine tk3_ 6 22 (N_ 17 1127) hHeld ?_
             refine tk3_ 11 27 (N_ 17 3175) hHeld ?_
             refine one_ (i := 3) (N := some 19) (N_ 17 3183) rfl rfl (one_of HT_.out (by kernel_rfl)) (by decide) (fun K hK => ?_)
             refine goes_ Tryd.func51 (by kernel_rfl) rfl #[.int .i64 ((rd_T33 l0 an).f2)] (by rfl) rfl rfl (Z27) ?_
             with_reducible refine (spec_l1Num.calls k1 ((rd_T33 l0 an).f2) co _ A8.out).mono ?_
             rintro e ug ⟨rfl, hb⟩
             refine ⟨_, rfl, ?_⟩
             have n0_ := Aside0.mk (Ye_ bn)
             have n1_ := Aside0.mk (below_step (Z69) hb)
             clear bn
             clear HB
             have bn := n0_
             have HB := n1_
             clear n0_ n1_
             (try clear hb)
             (try clear hb2)
             (try clear hk)
             (try clear hi)
             refine hK.out _ _ ⟨(blk_cell bn.out 0).trans rfl, (blk_cell bn.out 1).trans rfl, (blk_cell bn.out 2).trans rfl⟩ (fun hHeld => ?_)
             clear hK K
             refine norm_ (a' := ?_) ?_ ?_
             rotate_left
             ·show Act.put _ (some 19) _ = _
              simp only [Act.put, List.setIfInBounds_toArray, List.set_cons_zero, List.set_cons_succ, i64_w, i32_w]
              rfl
             refine pu_ 4 20 (N_ 17 3199) ?_
             refine one_ (i := 7) (N := some 23) (N_ 17 3327) rfl rfl (one_of HT_.out (by kernel_rfl)) (by decide) (fun K hK => ?_)
             refine goes_ Tryd.func51 (by kernel_rfl) rfl #[.int .i64 ((rd_T33 l0 an).f1)] (by rfl) rfl rfl (Z27) ?_
             with_reducible refine (spec_l1Num.calls k1 ((rd_T33 l0 an).f1) cI _ ym.out).mono ?_
             rintro e r9 ⟨rfl, hb⟩
             refine ⟨_, rfl, ?_⟩
             have n0_ := Aside0.mk (Ye_ bn)
             have n1_ := Aside0.mk (below_step (Z69) hb)
             clear bn
             clear HB
             have bn := n0_
             have HB := n1_
             clear n0_ n1_
             refine hK.out _ _ ⟨(blk_cell bn.out 0).trans rfl, (blk_cell bn.out 1).trans rfl, (blk_cell bn.out 2).trans rfl⟩ (fun hHeld => ?_)
             clear hK K
             refine norm_ (a' := ?_) ?_ ?_
             rotate_left
             ·show Act.put _ (some 23) _ = _
              simp only [Act.put, List.setIfInBounds_toArray, List.set_cons_zero, List.set_cons_succ, i64_w, i32_w]
              rfl
             refine pu_ 8 24 (N_ 17 3583) ?_
             refine pu_ 9 25 (M_ 12 5) ?_
             refine one_ (i := 12) (N := some 28) (M_ 13 4) rfl rfl (one_of HT_.out (by kernel_rfl)) (by decide) (fun K hK => ?_)
             refine goes_ Tryd.func51 (by kernel_rfl) rfl #[.int .i64 ((rd_T33 l0 an).f0)] (by rfl) rfl rfl (Z27) ?_
             with_reducible refine (spec_l1Num.calls k1 ((rd_T33 l0 an).f0) dk _ vU.out).mono ?_
             rintro e oB ⟨rfl, hb⟩
             refine ⟨_, rfl, ?_⟩
             have n0_ := Aside0.mk (Ye_ bn)
             have n1_ := Aside0.mk (below_step (Z69) hb)
             clear bn
             clear HB
             have bn := n0_
             have HB := n1_
             clear n0_ n1_
             refine hK.out _ _ ⟨(blk_cell bn.out 0).trans rfl, (blk_cell bn.out 1).trans rfl, (blk_cell bn.out 2).trans rfl⟩ (fun hHeld => ?_)
             clear hK K
             refine norm_ (a' := ?_) ?_ ?_
             rotate_left
             ·show Act.put _ (some 28) _ = _
              simp only [Act.put, List.setIfInBounds_toArray, List.set_cons_zero, List.set_cons_succ, i64_w, i32_w]
              rfl
             refine pu_ 13 29 (M_ 14 3) ?_
             refine pu_ 14 30 (M_ 15 2) ?_
             refine pu_ 15 31 (M_ 16 1) ?_
             refine pu_ 16 4 (M_ 17 0) ?_
             refine done_ (done_of HT_.out (by kernel_rfl)) ?_
             try go_wp2
             go_roundg k1
             case measure => have := HK1.out; omega
             case rel => exact ⟨(au ++ (((((co ++ (⟨#[32]⟩ : ByteArray)) ++ cI) ++ (⟨#[32]⟩ : ByteArray)) ++ dk) ++ (⟨#[10]⟩ : ByteArray))), (wrap64 (an + 1)), (Z14), (Z14), H', ⟨Z82 HK1⟩, ⟨Z69⟩⟩
            rw [if_neg c16] at H
            exact absurd H (by simp)
           rw [if_neg c15] at H
           exact absurd H (by simp)
          rw [if_neg c14] at H
          exact absurd H (by simp)
         rw [if_neg c12] at H
         exact absurd H (by simp)
        rw [if_neg c11] at H
        exact absurd H (by simp)
       rw [if_neg c9] at H
       exact absurd H (by simp)
      rw [if_neg c7] at H
      exact absurd H (by simp)
     rw [if_neg c6] at H
     exact absurd H (by simp)
    rw [if_neg c5] at H
    have e3 : decide (an < (l0.length : Int)) = false := decide_eq_false c5
    clear c5
    simp only [Option.some.injEq, Prod.mk.injEq] at H
    obtain ⟨rfl, rfl⟩ := H
    go_wp2
    go_ret2
    exact ⟨Z11, Z1⟩
 replace c3 := Bool.eq_false_iff.mpr c3
 subst c3
 rw [if_neg (show ¬ (false = true) by decide)] at H
 simp only [Option.some.injEq, Prod.mk.injEq] at H
 obtain ⟨rfl, rfl⟩ := H
 go_enter Tryd.func26, Tryd.ntmps26
 go_wp2_with (first | ((with_reducible refine gate_callee (f := 33) rfl ?_); refine gl_ 8 Tryd.func33 #[.slice A0 l0.length c0] ?_; (with_reducible refine (spec_cyGood.calls k _ _ l0 false _ ?_ ?_ A2.out).mono ?_); exact (Z17 HR0); exact HC0.out; rintro e nZ ⟨rfl, hb⟩; refine ⟨_, rfl, ?_⟩; refine k1_ (below_step (Z1) hb) ?_; clear HB; intro HB; (try clear hb)))
 go_ret2
 exact ⟨Z11, Z1⟩

/-! ### laws_sameInts: function 27 -/
def laws_sameInts.l0 : Nat → List Int → List Int → Int → Int → Option (Bool)
 | 0, _, _, _, _ => none
 | k + 1, x0, x1, x12, x13 => if x13 < x12 then (if 0 ≤ x13 then (if x13 < (x0.length : Int) then (if x13 < (x1.length : Int) then (if (rd x0 x13) = (rd x1 x13) then (laws_sameInts.l0 k x0 x1 x12 (wrap64 (x13 + 1))) else (some false)) else (none)) else (none)) else (none)) else (some true)
def laws_sameInts.f (k : Nat) (l0 : List Int) (l1 : List Int) : Option (Bool) := if (l0.length : Int) = (l1.length : Int) then (laws_sameInts.l0 k l0 l1 (l0.length : Int) 0) else (some false)
theorem laws_sameInts.mono_l : ∀ k, (∀ y0 y1 y2 y3, LeO (laws_sameInts.l0 k y0 y1 y2 y3) (laws_sameInts.l0 (k + 1) y0 y1 y2 y3))
 | 0 => fun _ _ _ _ r h => by simp [laws_sameInts.l0] at h
 | k + 1 => by
  have ih0 := laws_sameInts.mono_l k
  ·intro y0 y1 y2 y3
   unfold laws_sameInts.l0
   exact mo15_
theorem laws_sameInts.mono : ∀ a0 a1 k, LeO (laws_sameInts.f k a0 a1) (laws_sameInts.f (k + 1) a0 a1) := by
 intro a0 a1 k
 have ih0 := laws_sameInts.mono_l k
 unfold laws_sameInts.f
 exact mo15_
set_option maxHeartbeats 8000000 in
set_option maxRecDepth 100000 in
theorem laws_sameInts.calls (k : Nat) (A0 : Option Addr) (c0 : Nat) (l0 : List Int) (A1 : Option Addr) (c1 : Nat) (l1 : List Int) (r : Bool) (w : World) (hr0 : Kd.C (Kd.int .i64) w A0 l0.length l0) (hc0 : l0.length ≤ c0) (hr1 : Kd.C (Kd.int .i64) w A1 l1.length l1) (hc1 : l1.length ≤ c1) (h : laws_sameInts.f k l0 l1 = some r) :
  Calls Tryd.prog 27 #[.slice A0 l0.length c0, .slice A1 l1.length c1] w fun e w' => e = .returned (.bool r) ∧ Drawn0 w w' := by
 have HR0 := Aside0.mk hr0
 have HC0 := Aside0.mk hc0
 clear hr0 hc0
 have HR1 := Aside0.mk hr1
 have HC1 := Aside0.mk hc1
 clear hr1 hc1
 have H : (if (l0.length : Int) = (l1.length : Int) then (laws_sameInts.l0 k l0 l1 (l0.length : Int) 0) else (some false)) = some r := h
 clear h
 by_cases c3 : (l0.length : Int) = (l1.length : Int)
 ·rw [if_pos c3] at H
  have dE : ((l0.length : Int) == (l1.length : Int)) = true := beq_iff_eq.mpr c3
  have gX : ((l0.length : Int) != (l1.length : Int)) = false := bne_eq_false_iff_eq.mpr c3
  have oV : (l0.length == l1.length) = true := by first | simpa using c3 | (simp at c3 ⊢; omega)
  clear c3
  have H' := Aside0.mk H
  clear H
  go_enter Tryd.func27, Tryd.ntmps27
  go_wp2
  repeat (go_quiet (fail); try go_wp2)
  go_loopg [13] k (fun kq vZ w' => ∃ (al : Int), vZ = .int .i64 al ∧ Aside0 (laws_sameInts.l0 kq l0 l1 (l0.length : Int) al = some r) ∧ Aside0 (kq ≤ k) ∧ Drawn0 w w')
  case atStart => exact ⟨(0), (Z14), H', ⟨Nat.le_refl _⟩, Z43⟩
  case round =>
   clear H'
   (try clear c1); (try clear c2); (try clear p2); (try clear c3); (try clear dE); (try clear gX); (try clear oV)
   obtain ⟨al, rfl, HA, HK1, ⟨m1, rfl⟩⟩ := hrel
   cases gk with
   | zero => exact absurd HA.out (by simp [laws_sameInts.l0])
   | succ k1 =>
    have H := HA.out
    clear HA
    simp only [laws_sameInts.l0] at H
    by_cases c4 : al < (l0.length : Int)
    ·rw [if_pos c4] at H
     have cy : decide (al < (l0.length : Int)) = true := decide_eq_true c4
     clear c4
     by_cases c5 : 0 ≤ al
     ·rw [if_pos c5] at H
      have e3 : decide (0 ≤ al) = true := decide_eq_true c5
      clear c5
      by_cases c6 : al < (l0.length : Int)
      ·rw [if_pos c6] at H
       have en : decide (al < (l0.length : Int)) = true := decide_eq_true c6
       clear c6
       by_cases c7 : al < (l1.length : Int)
       ·rw [if_pos c7] at H
        have dz : decide (al < (l1.length : Int)) = true := decide_eq_true c7
        clear c7
        by_cases c8 : (rd l0 al) = (rd l1 al)
        ·rw [if_pos c8] at H
         have iY : ((rd l0 al) == (rd l1 al)) = true := beq_iff_eq.mpr c8
         have c8b1 : ((rd l0 al) != (rd l1 al)) = false := bne_eq_false_iff_eq.mpr c8
         clear c8
         have H' := Aside0.mk H
         clear H
         have hP : 0 ≤ (al : Int) := of_decide_eq_true (Z12)
         have hU : al < (l0.length : Int) := of_decide_eq_true (Z12)
         obtain ⟨sl, e543, fi⟩ := Kd.at_int HR0.out al hP hU
         cases e543
         replace hP := eq_true hP
         replace hU := eq_true hU
         have ms : 0 ≤ (al : Int) := of_decide_eq_true (Z12)
         have mt : al < (l1.length : Int) := of_decide_eq_true (Z12)
         obtain ⟨ad544, e544, hx544_0⟩ := Kd.at_int HR1.out al ms mt
         cases e544
         replace ms := eq_true ms
         replace mt := eq_true mt
         go_wp2
         repeat (go_quiet (fail); try go_wp2)
         go_roundg k1
         case measure => have := HK1.out; omega
         case rel => exact ⟨(wrap64 (al + 1)), (Z14), H', ⟨Z82 HK1⟩, Z43⟩
        rw [if_neg c8] at H
        have iY : ((rd l0 al) == (rd l1 al)) = false := beq_eq_false_iff_ne.mpr c8
        have c8b1 : ((rd l0 al) != (rd l1 al)) = true := bne_iff_ne.mpr c8
        obtain rfl := Option.some.inj H
        have hP : 0 ≤ (al : Int) := of_decide_eq_true (Z12)
        have hU : al < (l0.length : Int) := of_decide_eq_true (Z12)
        obtain ⟨sl, e543, fi⟩ := Kd.at_int HR0.out al hP hU
        cases e543
        replace hP := eq_true hP
        replace hU := eq_true hU
        have ms : 0 ≤ (al : Int) := of_decide_eq_true (Z12)
        have mt : al < (l1.length : Int) := of_decide_eq_true (Z12)
        obtain ⟨ad544, e544, hx544_0⟩ := Kd.at_int HR1.out al ms mt
        cases e544
        replace ms := eq_true ms
        replace mt := eq_true mt
        go_wp2
        repeat (go_quiet (fail); try go_wp2)
        go_ret
        exact ⟨Z14, Z43⟩
       rw [if_neg c7] at H
       exact absurd H (by simp)
      rw [if_neg c6] at H
      exact absurd H (by simp)
     rw [if_neg c5] at H
     exact absurd H (by simp)
    rw [if_neg c4] at H
    have cy : decide (al < (l0.length : Int)) = false := decide_eq_false c4
    clear c4
    obtain rfl := Option.some.inj H
    go_wp2
    repeat (go_quiet (fail); try go_wp2)
    go_ret
    exact ⟨Z14, Z43⟩
 rw [if_neg c3] at H
 have dE : ((l0.length : Int) == (l1.length : Int)) = false := beq_eq_false_iff_ne.mpr c3
 have gX : ((l0.length : Int) != (l1.length : Int)) = true := bne_iff_ne.mpr c3
 have oV : (l0.length == l1.length) = false := by first | simpa using c3 | (simp at c3 ⊢; omega)
 obtain rfl := Option.some.inj H
 go_enter Tryd.func27, Tryd.ntmps27
 go_wp2
 repeat (go_quiet (fail); try go_wp2)
 go_ret
 exact ⟨Z14, Z43⟩

end Go.Proofs.YtdipcpcbclobpaaDoor.PFnPins
