-- written by a program of this session: the kit's print, with outer functions of the session's own (wip/ext)
import Derived.Test.YtmnnmddfmmaohaaGreatPFnHeadx0
import Derived.Test.YtmnnmddfmmaohaaGreatPFnHeadx2
import Derived.Test.YtmnnmddfmmaohaaGreatPFnHeadx3
namespace Go.Proofs.YtmnnmddfmmaohaaGreat.PFnHead
open Go.RowKit Go.Proofs.YtmnnmddfmmaohaaGreatW.PrintWords Go.Proofs.YtmnnmddfmmaohaaGreatW.PrintLast Go.Proofs.YtmnnmddfmmaohaaGreatW.PrintMore
attribute [local go_sem] max2_int min2_int max_two min_two max_three min_three max_four min_four   -- for this text's walks alone
set_option linter.unusedVariables false
set_option linter.unusedSimpArgs false
theorem mo4_ {p : Prop} (h : p := by repeat' first | (with_reducible first | apply ih0 | apply ih0 | apply ih1 | apply ih1 | apply spec_shGood.mono | apply spec_shGood.mono | exact LeO.refl _ | exact LeO.none _ | refine LeO.ite ?_ ?_ | refine LeO.bind ?_ (fun _ => ?_)) | exact LeO.none _ | refine LeO.ite ?_ ?_ | refine LeO.bind ?_ (fun _ => ?_)) : p := h

/-! ### spec_shSorted: function 76 -/
mutual
def spec_shSorted.l0 : Nat → List (S76) → List (S76) → Int → Int → Option ((List (S76)) × Bool)
 | 0, _, _, _, _ => none
 | k + 1, x4, x8, x9, x10 => if x10 < x9 then (if 0 ≤ x10 then (if x10 < (x8.length : Int) then (spec_shSorted.l1 k x4 (x4.length : Int) x8 x9 x10 ((rd_T76 x8 x10).f0) ((rd_T76 x8 x10).f1) ((rd_T76 x8 x10).f2)) else (none)) else (none)) else ((spec_shGood.f k x4).bind fun zz => (if zz = true then (some (x4, true)) else (some (([] : List (S76)), false))))
def spec_shSorted.l1 : Nat → List (S76) → Int → List (S76) → Int → Int → Int → Int → Int → Option ((List (S76)) × Bool)
 | 0, _, _, _, _, _, _, _, _ => none
 | k + 1, x4, x7, x8, x9, x10, jm, jn, jo => if x7 > 0 then (if 0 ≤ (wrap64 (x7 - 1)) then (if (wrap64 (x7 - 1)) < (x4.length : Int) then ((spec_shBefore.f jm jn jo ((rd_T76 x4 (wrap64 (x7 - 1))).f0) ((rd_T76 x4 (wrap64 (x7 - 1))).f1) ((rd_T76 x4 (wrap64 (x7 - 1))).f2)).bind fun uy => (if uy = true then (spec_shSorted.l1 k x4 (wrap64 (x7 - 1)) x8 x9 x10 jm jn jo) else ((some (([] : List (S76)) : List (S76))).bind fun gM => (if 0 ≤ x7 then (if x7 ≤ (x4.length : Int) then ((some (x4.take (x7 : Int).toNat : List (S76))).bind fun db => (if gM.length + db.length < 5864062014805 then ((some (gM ++ db : List (S76))).bind fun eZ => ((some (([(⟨jm, jn, jo⟩ : S76)] : List (S76)) : List (S76))).bind fun cU => (if eZ.length + cU.length < 5864062014805 then ((some (eZ ++ cU : List (S76))).bind fun d4 => ((some (x4.drop (x7 : Int).toNat : List (S76))).bind fun b2 => (if d4.length + b2.length < 5864062014805 then (spec_shSorted.l0 k (d4 ++ b2) x8 x9 (wrap64 (x10 + 1))) else (none)))) else (none)))) else (none))) else (none)) else (none))))) else (none)) else (none)) else ((some (([] : List (S76)) : List (S76))).bind fun i4 => (if 0 ≤ x7 then (if x7 ≤ (x4.length : Int) then ((some (x4.take (x7 : Int).toNat : List (S76))).bind fun dv => (if i4.length + dv.length < 5864062014805 then ((some (i4 ++ dv : List (S76))).bind fun fR => ((some (([(⟨jm, jn, jo⟩ : S76)] : List (S76)) : List (S76))).bind fun dh => (if fR.length + dh.length < 5864062014805 then ((some (fR ++ dh : List (S76))).bind fun eA => ((some (x4.drop (x7 : Int).toNat : List (S76))).bind fun cf => (if eA.length + cf.length < 5864062014805 then (spec_shSorted.l0 k (eA ++ cf) x8 x9 (wrap64 (x10 + 1))) else (none)))) else (none)))) else (none))) else (none)) else (none)))
end
def spec_shSorted.f (k : Nat) (l0 : List (S76)) : Option ((List (S76)) × Bool) := spec_shSorted.l0 k ([] : List (S76)) l0 (l0.length : Int) 0
theorem spec_shSorted.mono_l : ∀ k, (∀ y0 y1 y2 y3, LeO (spec_shSorted.l0 k y0 y1 y2 y3) (spec_shSorted.l0 (k + 1) y0 y1 y2 y3)) ∧ (∀ y0 y1 y2 y3 y4 y5 y6 y7, LeO (spec_shSorted.l1 k y0 y1 y2 y3 y4 y5 y6 y7) (spec_shSorted.l1 (k + 1) y0 y1 y2 y3 y4 y5 y6 y7))
 | 0 => ⟨fun _ _ _ _ r h => by simp [spec_shSorted.l0] at h, fun _ _ _ _ _ _ _ _ r h => by simp [spec_shSorted.l1] at h⟩
 | k + 1 => by
  obtain ⟨ih0, ih1⟩ := spec_shSorted.mono_l k
  refine ⟨?_, ?_⟩
  ·intro y0 y1 y2 y3
   unfold spec_shSorted.l0
   exact mo4_
  intro y0 y1 y2 y3 y4 y5 y6 y7
  unfold spec_shSorted.l1
  exact mo4_
theorem spec_shSorted.mono : ∀ a0 k, LeO (spec_shSorted.f k a0) (spec_shSorted.f (k + 1) a0) := by
 intro a0 k
 obtain ⟨ih0, ih1⟩ := spec_shSorted.mono_l k
 unfold spec_shSorted.f
 exact mo4_
def spec_shSorted.T6 : Bool × List (List Nat × List Nat) := (true, [([], []), ([0], [0]), ([1], [1]), ([2], [2]), ([2], [2]), ([2], [2]), ([5, 2], [2, 5]), ([4, 6, 2], [2, 4, 6]), ([7, 2], [2, 7]), ([3, 8, 2, 2], [2, 3, 8]), ([2, 9], [2, 9])])
def spec_shSorted.B6 : List Nat := [0, 1, 3, 7, 7, 7, 39, 119, 247, 511, 1023]
theorem spec_shSorted.tab6 : rtab .any (opsOf Tryz.f76 6) = spec_shSorted.T6 := by kernel_rfl
theorem spec_shSorted.bits6 : waitsOk spec_shSorted.T6.2 spec_shSorted.B6 = true := by kernel_rfl
def spec_shSorted.T8 : Bool × List (List Nat × List Nat) := (true, [([], []), ([], []), ([], []), ([1, 2], [1, 2]), ([0, 3], [0, 3]), ([], []), ([5], [5]), ([4, 6, 4], [4, 6]), ([], []), ([], []), ([8, 9], [8, 9]), ([7, 10, 7], [7, 10]), ([11, 11, 0, 1, 2, 3, 4, 5, 6, 7, 8, 9, 10, 11], [1, 8, 11])])
def spec_shSorted.B8 : List Nat := [0, 0, 0, 6, 15, 0, 32, 127, 0, 0, 768, 2047, 4095]
theorem spec_shSorted.tab8 : rtab .any (opsOf Tryz.f76 8) = spec_shSorted.T8 := by kernel_rfl
theorem spec_shSorted.bits8 : waitsOk spec_shSorted.T8.2 spec_shSorted.B8 = true := by kernel_rfl
set_option maxHeartbeats 8000000 in
set_option maxRecDepth 100000 in
theorem spec_shSorted.calls (k : Nat) (A0 : Option Addr) (c0 : Nat) (l0 : List (S76)) (r1 : List (S76)) (r2 : Bool) (w : World) (hr0 : Kd.C k76 w A0 l0.length l0) (hc0 : l0.length ≤ c0) (h : spec_shSorted.f k l0 = some (r1, r2)) :
  Calls Tryz.prog 76 #[.slice A0 l0.length c0] w fun e w' => ∃ v0_ : Value, e = .returned (.tuple #[v0_, .bool r2]) ∧ Kd.R k76 76 w' w.heap.size (fun _ => True) v0_ r1 ∧ Below w.heap.size w w' := by
 have hu76 := Tryz.underlying76
 have HR0 := Aside0.mk hr0
 have HC0 := Aside0.mk hc0
 clear hr0 hc0
 have HB := Aside0.mk (Below.refl w.heap.size w)
 have H : (spec_shSorted.l0 k ([] : List (S76)) l0 (l0.length : Int) 0) = some (r1, r2) := h
 clear h
 have H' := Aside0.mk H
 clear H
 go_enter Tryz.func76, Tryz.ntmps76
 go_wp2
 go_loopg [4, 10] k (fun kq v4 vK w' => ∃ (aw : List (S76)) (ag : Int), vK = .int .i64 ag ∧ Aside0 (spec_shSorted.l0 kq aw l0 (l0.length : Int) ag = some (r1, r2)) ∧ Aside0 (kq ≤ k) ∧ Aside0 (Kd.R k76 76 w' w.heap.size (fun _ => True) v4 aw) ∧ Aside0 (Below w.heap.size w w'))
 case atStart => exact ⟨(([] : List (S76))), (0), (Z16), H', ⟨Nat.le_refl _⟩, ⟨Z37⟩, ⟨Z2⟩⟩
 case round =>
  clear H'
  obtain ⟨aw, ag, rfl, HA, HK1, aj, HB⟩ := hrel
  cases gk with
  | zero => exact absurd HA.out (by simp [spec_shSorted.l0])
  | succ k1 =>
   have H := HA.out
   clear HA
   simp only [spec_shSorted.l0] at H
   by_cases c2 : ag < (l0.length : Int)
   ·rw [if_pos c2] at H
    have fi : decide (ag < (l0.length : Int)) = true := decide_eq_true c2
    clear c2
    by_cases c3 : 0 ≤ ag
    ·rw [if_pos c3] at H
     have dj : decide (0 ≤ ag) = true := decide_eq_true c3
     clear c3
     by_cases c4 : ag < (l0.length : Int)
     ·rw [if_pos c4] at H
      have fj : decide (ag < (l0.length : Int)) = true := decide_eq_true c4
      clear c4
      have H' := Aside0.mk H
      clear H
      have vZ : 0 ≤ (ag : Int) := of_decide_eq_true (Z4)
      have v0 : ag < (l0.length : Int) := of_decide_eq_true (Z4)
      obtain ⟨ad145, e145, jp, jq, jr⟩ := at_T76 HR0.out ag vZ v0
      cases e145
      replace jp := (HB.out.cell (World.block_lt_of_cell? w _ jp)).trans jp
      replace jq := (HB.out.cell (World.block_lt_of_cell? w _ jq)).trans jq
      replace jr := (HB.out.cell (World.block_lt_of_cell? w _ jr)).trans jr
      replace vZ := eq_true vZ
      replace v0 := eq_true v0
      go_wp2_with ((with_reducible refine gate_dst (N := 6) rfl ?_); refine bv_ 6 76 #[.int .i64 0, .int .i64 0, .int .i64 0] ?_; intro av hg w5 hbox hb; refine k5_ (Kd.R_below (Kd.R_elderB (Z1 aj) av (Nat.le_of_eq hg.symm)) hb) (below_step (Z2) hb) (hbox) ((Z38 : w.heap.size ≤ av)) ((Z38 : w.heap.size ≤ av)) ?_; clear aj HB; intro aj HB al GW146 GE146; clear hb hbox hg; obtain ⟨me, mf, qj, px, mg, qk⟩ := bx3_ (w := w5) al.out; obtain ⟨gT, dc, DJ⟩ := Kd.R_slice aj.out; subst DJ)
      (try simp only [Act.put, List.setIfInBounds_toArray, List.set_cons_zero, List.set_cons_succ])
      go_loopg [7] k1 (fun kq v7 w' => ∃ (ai : Int), v7 = .int .i64 ai ∧ Aside0 (spec_shSorted.l1 kq aw ai l0 (l0.length : Int) ag ((rd_T76 l0 ag).f0) ((rd_T76 l0 ag).f1) ((rd_T76 l0 ag).f2) = some (r1, r2)) ∧ Aside0 (kq ≤ k1) ∧ Aside0 (Kd.R k76 76 w' w.heap.size (fun k_ => k_ ≠ av) (.slice gT aw.length dc) aw) ∧ Aside0 (w'.heap[av]? = some (.cells #[.int .i64 ((rd_T76 l0 ag).f0), .int .i64 ((rd_T76 l0 ag).f1), .int .i64 ((rd_T76 l0 ag).f2)] 76 (0, 0))) ∧ Aside0 (Below w.heap.size w w'))
      case atStart => exact ⟨((aw.length : Int)), (Z16), H', ⟨Nat.le_refl _⟩, ⟨by (with_reducible repeat (first | apply Kd.R_alloc | apply Kd.R_drewN | apply Kd.R_drew)); exact Kd.R_mono (Kd.R_far (p := ⟨av, 2, none⟩) (Kd.R_far (p := ⟨av, 1, none⟩) (Kd.R_far (p := ⟨av, 0, none⟩) (Kd.R_mono aj.out (fun k_ hk => (⟨hk, hk.2⟩ : _ ∧ k_ ≠ av))) (fun _ hk => hk.2) (.int .i64 ((rd_T76 l0 ag).f0))) (fun _ hk => hk.2) (.int .i64 ((rd_T76 l0 ag).f1))) (fun _ hk => hk.2) (.int .i64 ((rd_T76 l0 ag).f2))) (fun _ hk => hk.1.2)⟩, ⟨Z50 al⟩, ⟨Z13⟩⟩
      case round =>
       clear H'
       (try clear p1); (try clear q1); (try clear hx1); (try clear c2); (try clear fi); (try clear p2); (try clear c3); (try clear dj); (try clear c4); (try clear fj); (try clear c7); (try clear me); (try clear mf); (try clear qj); (try clear px); (try clear mg); (try clear qk); (try clear jp); (try clear jq); (try clear jr); (try clear vZ); (try clear v0)
       obtain ⟨ai, rfl, HA, HK2, aj, al, HB⟩ := hrel
       cases gk with
       | zero => exact absurd HA.out (by simp [spec_shSorted.l1])
       | succ k2 =>
        have H := HA.out
        clear HA
        simp only [spec_shSorted.l1] at H
        by_cases c8 : ai > 0
        ·rw [if_pos c8] at H
         have g7 : decide (0 < ai) = true := decide_eq_true c8
         clear c8
         obtain ⟨cW, hji9⟩ : ∃ j_ : Int, (wrap64 (ai - 1)) = j_ := ⟨_, rfl⟩
         replace H : (if 0 ≤ (cW) then (if (cW) < (aw.length : Int) then ((spec_shBefore.f ((rd_T76 l0 ag).f0) ((rd_T76 l0 ag).f1) ((rd_T76 l0 ag).f2) ((rd_T76 aw (cW)).f0) ((rd_T76 aw (cW)).f1) ((rd_T76 aw (cW)).f2)).bind fun uy => (if uy = true then (spec_shSorted.l1 k2 aw cW l0 (l0.length : Int) ag ((rd_T76 l0 ag).f0) ((rd_T76 l0 ag).f1) ((rd_T76 l0 ag).f2)) else ((some (([] : List (S76)) : List (S76))).bind fun gM => (if 0 ≤ ai then (if ai ≤ (aw.length : Int) then ((some (aw.take (ai : Int).toNat : List (S76))).bind fun db => (if gM.length + db.length < 5864062014805 then ((some (gM ++ db : List (S76))).bind fun eZ => ((some (([(⟨((rd_T76 l0 ag).f0), ((rd_T76 l0 ag).f1), ((rd_T76 l0 ag).f2)⟩ : S76)] : List (S76)) : List (S76))).bind fun cU => (if eZ.length + cU.length < 5864062014805 then ((some (eZ ++ cU : List (S76))).bind fun d4 => ((some (aw.drop (ai : Int).toNat : List (S76))).bind fun b2 => (if d4.length + b2.length < 5864062014805 then (spec_shSorted.l0 k2 (d4 ++ b2) l0 (l0.length : Int) (wrap64 (ag + 1))) else (none)))) else (none)))) else (none))) else (none)) else (none))))) else (none)) else (none)) = some (r1, r2) := by first | (rw [hji9] at H; exact H) | (simp only [hji9] at H ⊢; exact H)
         have hji9w : (IntKind.i64.wrap (ai - 1)) = cW := (i64_w _).trans hji9
         by_cases c10 : 0 ≤ (cW)
         ·rw [if_pos c10] at H
          have cg : decide (0 ≤ (cW)) = true := decide_eq_true c10
          clear c10
          by_cases c11 : (cW) < (aw.length : Int)
          ·rw [if_pos c11] at H
           have jD : decide ((cW) < (aw.length : Int)) = true := decide_eq_true c11
           clear c11
           replace H := Option.bind_eq_some_iff.mp H
           obtain ⟨uy, nj, H⟩ := H
           (try dsimp only at H)
           have AB := Aside0.mk nj
           clear nj
           by_cases c13 : uy = true
           ·subst c13
            rw [if_pos rfl] at H
            have H' := Aside0.mk H
            clear H
            try go_wp2
            refine k3_ (Kd.R_drew aj.out) (blk_drew al.out) (below_drew1 HB.out) ?_
            clear aj al HB
            intro aj al HB
            have qz : 0 ≤ ((cW) : Int) := of_decide_eq_true (Z4)
            have qA : (cW) < (aw.length : Int) := of_decide_eq_true (Z4)
            obtain ⟨bt, e147, hX, hY, hZ⟩ := at_T76 (Kd.R_reads' aj.out).2.2 (cW) qz qA
            cases e147
            replace qz := eq_true qz
            replace qA := eq_true qA
            refine start_ (n := 11) (S := fun w' => w'.cell? ⟨av, 0, none⟩ = some (.int .i64 ((rd_T76 l0 ag).f0)) ∧ w'.cell? ⟨av, 1, none⟩ = some (.int .i64 ((rd_T76 l0 ag).f1)) ∧ w'.cell? ⟨av, 2, none⟩ = some (.int .i64 ((rd_T76 l0 ag).f2)) ∧ w'.cell? (bt.add (((cW)).toNat * 3)) = some (.int .i64 ((rd_T76 aw (cW)).f0)) ∧ w'.cell? ⟨(bt.add (((cW)).toNat * 3)).block, (bt.add (((cW)).toNat * 3)).off + 1, none⟩ = some (.int .i64 ((rd_T76 aw (cW)).f1)) ∧ w'.cell? ⟨(bt.add (((cW)).toNat * 3)).block, (bt.add (((cW)).toNat * 3)).off + 2, none⟩ = some (.int .i64 ((rd_T76 aw (cW)).f2))) (ds := []) (M_ 0 11) (by kernel_rfl) rfl rfl ⟨(blk_cell al.out 0).trans rfl, (blk_cell al.out 1).trans rfl, (blk_cell al.out 2).trans rfl, hX, hY, hZ⟩ (fun hHeld => ?_); refine with_tabW spec_shSorted.tab6 spec_shSorted.bits6 (fun HT_ HW_ => ?_)
            generalize wr.drew = vE at aj al HB hX hY hZ hHeld ⊢
            refine pu_ 0 16 (M_ 1 10) ?_
            refine pu_ 1 17 (M_ 2 9) ?_
            refine pu_ 2 18 (M_ 3 8) ?_
            refine pu_ 4 20 (N_ 11 23) ?_
            refine pu_ 5 21 (N_ 11 55) ?_
            refine pu_ 6 22 (N_ 11 119) ?_
            refine pu_ 7 23 (N_ 11 247) ?_
            refine tk6_ 3 19 (M_ 8 3) hHeld ?_
            refine tk6_ 8 24 (M_ 9 2) hHeld ?_
            refine one_ (i := 9) (N := some 25) (M_ 10 1) rfl rfl (one_of HT_.out (by kernel_rfl)) (by decide) (fun K hK => ?_)
            refine goes_ Tryz.func82 (by kernel_rfl) rfl #[.agg #[.int .i64 ((rd_T76 l0 ag).f0), .int .i64 ((rd_T76 l0 ag).f1), .int .i64 ((rd_T76 l0 ag).f2)], .agg #[.int .i64 ((rd_T76 aw (cW)).f0), .int .i64 ((rd_T76 aw (cW)).f1), .int .i64 ((rd_T76 aw (cW)).f2)]] (by rfl) rfl rfl (Z134) ?_
            with_reducible refine (spec_shBefore.calls ((rd_T76 l0 ag).f0) ((rd_T76 l0 ag).f1) ((rd_T76 l0 ag).f2) ((rd_T76 aw (cW)).f0) ((rd_T76 aw (cW)).f1) ((rd_T76 aw (cW)).f2) true _ AB.out).mono ?_
            rintro e l8 ⟨rfl, hb⟩
            have HS3_ := (hb.cell (World.block_lt_of_cell? _ _ (hHeld.2.2.2.1))).trans (hHeld.2.2.2.1)
            have HS4_ := (hb.cell (World.block_lt_of_cell? _ _ (hHeld.2.2.2.2.1))).trans (hHeld.2.2.2.2.1)
            have HS5_ := (hb.cell (World.block_lt_of_cell? _ _ (hHeld.2.2.2.2.2))).trans (hHeld.2.2.2.2.2)
            refine ⟨_, rfl, ?_⟩
            have n0_ := Aside0.mk (Ya_ aj)
            have n1_ := Aside0.mk (Ye_ al)
            have n2_ := Aside0.mk (below_step (Z13) hb)
            clear aj
            clear al
            clear HB
            have aj := n0_
            have al := n1_
            have HB := n2_
            clear n0_ n1_ n2_
            (try clear hb)
            (try clear hb2)
            (try clear hk)
            (try clear hi)
            refine hK.out _ _ ⟨(blk_cell al.out 0).trans rfl, (blk_cell al.out 1).trans rfl, (blk_cell al.out 2).trans rfl, HS3_, HS4_, HS5_⟩ (fun hHeld => ?_)
            clear hK K
            refine norm_ (a' := ?_) ?_ ?_
            rotate_left
            ·show Act.put _ (some 25) _ = _
             simp only [Act.put, List.setIfInBounds_toArray, List.set_cons_zero, List.set_cons_succ, i64_w, i32_w]
             rfl
            refine pu_ 10 26 (M_ 11 0) ?_
            refine done_ (done_of HT_.out (by kernel_rfl)) ?_
            try go_wp2
            go_roundg k2
            case measure => have := HK1.out; have := HK2.out; omega
            case rel => exact ⟨(cW), (by first | rfl | (simp; done) | (simp only [← hji9] <;> (first | rfl | simp)) | (simp [*]; done)), H', ⟨Z115 HK1⟩, ⟨Z1 aj⟩, ⟨Z6 al⟩, ⟨Z13⟩⟩
           replace c13 := Bool.eq_false_iff.mpr c13
           subst c13
           rw [if_neg (show ¬ (false = true) by decide)] at H
           obtain ⟨gM, oA⟩ : ∃ y_ : List (S76), y_ = (([] : List (S76))) := ⟨_, rfl⟩
           replace H : (if 0 ≤ ai then (if ai ≤ (aw.length : Int) then ((some (aw.take (ai : Int).toNat : List (S76))).bind fun db => (if gM.length + db.length < 5864062014805 then ((some (gM ++ db : List (S76))).bind fun eZ => ((some (([(⟨((rd_T76 l0 ag).f0), ((rd_T76 l0 ag).f1), ((rd_T76 l0 ag).f2)⟩ : S76)] : List (S76)) : List (S76))).bind fun cU => (if eZ.length + cU.length < 5864062014805 then ((some (eZ ++ cU : List (S76))).bind fun d4 => ((some (aw.drop (ai : Int).toNat : List (S76))).bind fun b2 => (if d4.length + b2.length < 5864062014805 then (spec_shSorted.l0 k2 (d4 ++ b2) l0 (l0.length : Int) (wrap64 (ag + 1))) else (none)))) else (none)))) else (none))) else (none)) else (none)) = some (r1, r2) := by first | (rw [oA]; with_reducible exact H) | (have H2_ := (Option.bind_some _ _).symm.trans H; rw [oA]; with_reducible exact H2_) | (have H2_ := (Option.bind_some _ _).symm.trans H; with_reducible exact H2_) | with_reducible exact H | (rw [oA]; exact H) | exact H
           have rr := Aside0.mk oA
           clear oA
           by_cases c16 : 0 ≤ ai
           ·rw [if_pos c16] at H
            have ej := eq_true c16
            have qR : decide (0 ≤ ai) = true := decide_eq_true c16
            clear c16
            by_cases c17 : ai ≤ (aw.length : Int)
            ·rw [if_pos c17] at H
             have lM := eq_true c17
             have qT : decide (ai ≤ (aw.length : Int)) = true := decide_eq_true c17
             clear c17
             obtain ⟨db, oB⟩ : ∃ y_ : List (S76), y_ = (aw.take (ai : Int).toNat) := ⟨_, rfl⟩
             replace H : (if gM.length + db.length < 5864062014805 then ((some (gM ++ db : List (S76))).bind fun eZ => ((some (([(⟨((rd_T76 l0 ag).f0), ((rd_T76 l0 ag).f1), ((rd_T76 l0 ag).f2)⟩ : S76)] : List (S76)) : List (S76))).bind fun cU => (if eZ.length + cU.length < 5864062014805 then ((some (eZ ++ cU : List (S76))).bind fun d4 => ((some (aw.drop (ai : Int).toNat : List (S76))).bind fun b2 => (if d4.length + b2.length < 5864062014805 then (spec_shSorted.l0 k2 (d4 ++ b2) l0 (l0.length : Int) (wrap64 (ag + 1))) else (none)))) else (none)))) else (none)) = some (r1, r2) := by first | (rw [oB]; with_reducible exact H) | (have H2_ := (Option.bind_some _ _).symm.trans H; rw [oB]; with_reducible exact H2_) | (have H2_ := (Option.bind_some _ _).symm.trans H; with_reducible exact H2_) | with_reducible exact H | (rw [oB]; exact H) | exact H
             have iR := Aside0.mk oB
             clear oB
             by_cases c18 : gM.length + db.length < 5864062014805
             ·rw [if_pos c18] at H
              have nl := Aside0.mk c18
              clear c18
              obtain ⟨eZ, oC⟩ : ∃ y_ : List (S76), y_ = (gM ++ db) := ⟨_, rfl⟩
              replace H : ((some (([(⟨((rd_T76 l0 ag).f0), ((rd_T76 l0 ag).f1), ((rd_T76 l0 ag).f2)⟩ : S76)] : List (S76)) : List (S76))).bind fun cU => (if eZ.length + cU.length < 5864062014805 then ((some (eZ ++ cU : List (S76))).bind fun d4 => ((some (aw.drop (ai : Int).toNat : List (S76))).bind fun b2 => (if d4.length + b2.length < 5864062014805 then (spec_shSorted.l0 k2 (d4 ++ b2) l0 (l0.length : Int) (wrap64 (ag + 1))) else (none)))) else (none))) = some (r1, r2) := by first | (rw [oC]; with_reducible exact H) | (have H2_ := (Option.bind_some _ _).symm.trans H; rw [oC]; with_reducible exact H2_) | (have H2_ := (Option.bind_some _ _).symm.trans H; with_reducible exact H2_) | with_reducible exact H | (rw [oC]; exact H) | exact H
              have uz := Aside0.mk oC
              clear oC
              obtain ⟨cU, oD⟩ : ∃ y_ : List (S76), y_ = (([(⟨((rd_T76 l0 ag).f0), ((rd_T76 l0 ag).f1), ((rd_T76 l0 ag).f2)⟩ : S76)] : List (S76))) := ⟨_, rfl⟩
              replace H : (if eZ.length + cU.length < 5864062014805 then ((some (eZ ++ cU : List (S76))).bind fun d4 => ((some (aw.drop (ai : Int).toNat : List (S76))).bind fun b2 => (if d4.length + b2.length < 5864062014805 then (spec_shSorted.l0 k2 (d4 ++ b2) l0 (l0.length : Int) (wrap64 (ag + 1))) else (none)))) else (none)) = some (r1, r2) := by first | (rw [oD]; with_reducible exact H) | (have H2_ := (Option.bind_some _ _).symm.trans H; rw [oD]; with_reducible exact H2_) | (have H2_ := (Option.bind_some _ _).symm.trans H; with_reducible exact H2_) | with_reducible exact H | (rw [oD]; exact H) | exact H
              have l4 := Aside0.mk oD
              clear oD
              by_cases c19 : eZ.length + cU.length < 5864062014805
              ·rw [if_pos c19] at H
               have uA := Aside0.mk c19
               clear c19
               obtain ⟨d4, oE⟩ : ∃ y_ : List (S76), y_ = (eZ ++ cU) := ⟨_, rfl⟩
               replace H : ((some (aw.drop (ai : Int).toNat : List (S76))).bind fun b2 => (if d4.length + b2.length < 5864062014805 then (spec_shSorted.l0 k2 (d4 ++ b2) l0 (l0.length : Int) (wrap64 (ag + 1))) else (none))) = some (r1, r2) := by first | (rw [oE]; with_reducible exact H) | (have H2_ := (Option.bind_some _ _).symm.trans H; rw [oE]; with_reducible exact H2_) | (have H2_ := (Option.bind_some _ _).symm.trans H; with_reducible exact H2_) | with_reducible exact H | (rw [oE]; exact H) | exact H
               have Ny162 := Aside0.mk oE
               clear oE
               have ea := eq_true (of_decide_eq_true (Z4) : 0 ≤ ai)
               have iF := eq_true (of_decide_eq_true (Z4) : ai ≤ (aw.length : Int))
               obtain ⟨b2, oF⟩ : ∃ y_ : List (S76), y_ = (aw.drop (ai : Int).toNat) := ⟨_, rfl⟩
               replace H : (if d4.length + b2.length < 5864062014805 then (spec_shSorted.l0 k2 (d4 ++ b2) l0 (l0.length : Int) (wrap64 (ag + 1))) else (none)) = some (r1, r2) := by first | (rw [oF]; with_reducible exact H) | (have H2_ := (Option.bind_some _ _).symm.trans H; rw [oF]; with_reducible exact H2_) | (have H2_ := (Option.bind_some _ _).symm.trans H; with_reducible exact H2_) | with_reducible exact H | (rw [oF]; exact H) | exact H
               have iS := Aside0.mk oF
               clear oF
               by_cases c22 : d4.length + b2.length < 5864062014805
               ·rw [if_pos c22] at H
                have tC := Aside0.mk c22
                clear c22
                obtain ⟨BZ, oG⟩ : ∃ y_ : List (S76), y_ = (d4 ++ b2) := ⟨_, rfl⟩
                replace H : (spec_shSorted.l0 k2 BZ l0 (l0.length : Int) (wrap64 (ag + 1))) = some (r1, r2) := by first | (rw [oG]; with_reducible exact H) | (have H2_ := (Option.bind_some _ _).symm.trans H; rw [oG]; with_reducible exact H2_) | (have H2_ := (Option.bind_some _ _).symm.trans H; with_reducible exact H2_) | with_reducible exact H | (rw [oG]; exact H) | exact H
                have Ny169 := Aside0.mk oG
                clear oG
                have H' := Aside0.mk H
                clear H
                try go_wp2
                refine k3_ (Kd.R_drew aj.out) (blk_drew al.out) (below_drew1 HB.out) ?_
                clear aj al HB
                intro aj al HB
                have qz : 0 ≤ ((cW) : Int) := of_decide_eq_true (Z4)
                have qA : (cW) < (aw.length : Int) := of_decide_eq_true (Z4)
                obtain ⟨bt, e147, hX, hY, hZ⟩ := at_T76 (Kd.R_reads' aj.out).2.2 (cW) qz qA
                cases e147
                replace qz := eq_true qz
                replace qA := eq_true qA
                refine start_ (n := 11) (S := fun w' => w'.cell? ⟨av, 0, none⟩ = some (.int .i64 ((rd_T76 l0 ag).f0)) ∧ w'.cell? ⟨av, 1, none⟩ = some (.int .i64 ((rd_T76 l0 ag).f1)) ∧ w'.cell? ⟨av, 2, none⟩ = some (.int .i64 ((rd_T76 l0 ag).f2)) ∧ w'.cell? (bt.add (((cW)).toNat * 3)) = some (.int .i64 ((rd_T76 aw (cW)).f0)) ∧ w'.cell? ⟨(bt.add (((cW)).toNat * 3)).block, (bt.add (((cW)).toNat * 3)).off + 1, none⟩ = some (.int .i64 ((rd_T76 aw (cW)).f1)) ∧ w'.cell? ⟨(bt.add (((cW)).toNat * 3)).block, (bt.add (((cW)).toNat * 3)).off + 2, none⟩ = some (.int .i64 ((rd_T76 aw (cW)).f2))) (ds := []) (M_ 0 11) (by kernel_rfl) rfl rfl ⟨(blk_cell al.out 0).trans rfl, (blk_cell al.out 1).trans rfl, (blk_cell al.out 2).trans rfl, hX, hY, hZ⟩ (fun hHeld => ?_); refine with_tabW spec_shSorted.tab6 spec_shSorted.bits6 (fun HT_ HW_ => ?_)
                generalize wr.drew = AC at aj al HB hX hY hZ hHeld ⊢
                refine pu_ 0 16 (M_ 1 10) ?_
                refine pu_ 1 17 (M_ 2 9) ?_
                refine pu_ 2 18 (M_ 3 8) ?_
                refine pu_ 4 20 (N_ 11 23) ?_
                refine pu_ 5 21 (N_ 11 55) ?_
                refine pu_ 6 22 (N_ 11 119) ?_
                refine pu_ 7 23 (N_ 11 247) ?_
                refine tk6_ 3 19 (M_ 8 3) hHeld ?_
                refine tk6_ 8 24 (M_ 9 2) hHeld ?_
                refine one_ (i := 9) (N := some 25) (M_ 10 1) rfl rfl (one_of HT_.out (by kernel_rfl)) (by decide) (fun K hK => ?_)
                refine goes_ Tryz.func82 (by kernel_rfl) rfl #[.agg #[.int .i64 ((rd_T76 l0 ag).f0), .int .i64 ((rd_T76 l0 ag).f1), .int .i64 ((rd_T76 l0 ag).f2)], .agg #[.int .i64 ((rd_T76 aw (cW)).f0), .int .i64 ((rd_T76 aw (cW)).f1), .int .i64 ((rd_T76 aw (cW)).f2)]] (by rfl) rfl rfl (Z134) ?_
                with_reducible refine (spec_shBefore.calls ((rd_T76 l0 ag).f0) ((rd_T76 l0 ag).f1) ((rd_T76 l0 ag).f2) ((rd_T76 aw (cW)).f0) ((rd_T76 aw (cW)).f1) ((rd_T76 aw (cW)).f2) false _ AB.out).mono ?_
                rintro e jE ⟨rfl, hb⟩
                have HS3_ := (hb.cell (World.block_lt_of_cell? _ _ (hHeld.2.2.2.1))).trans (hHeld.2.2.2.1)
                have HS4_ := (hb.cell (World.block_lt_of_cell? _ _ (hHeld.2.2.2.2.1))).trans (hHeld.2.2.2.2.1)
                have HS5_ := (hb.cell (World.block_lt_of_cell? _ _ (hHeld.2.2.2.2.2))).trans (hHeld.2.2.2.2.2)
                refine ⟨_, rfl, ?_⟩
                have n0_ := Aside0.mk (Ya_ aj)
                have n1_ := Aside0.mk (Ye_ al)
                have n2_ := Aside0.mk (below_step (Z13) hb)
                clear aj
                clear al
                clear HB
                have aj := n0_
                have al := n1_
                have HB := n2_
                clear n0_ n1_ n2_
                (try clear hb)
                (try clear hb2)
                (try clear hk)
                (try clear hi)
                refine hK.out _ _ ⟨(blk_cell al.out 0).trans rfl, (blk_cell al.out 1).trans rfl, (blk_cell al.out 2).trans rfl, HS3_, HS4_, HS5_⟩ (fun hHeld => ?_)
                clear hK K
                refine norm_ (a' := ?_) ?_ ?_
                rotate_left
                ·show Act.put _ (some 25) _ = _
                 simp only [Act.put, List.setIfInBounds_toArray, List.set_cons_zero, List.set_cons_succ, i64_w, i32_w]
                 rfl
                refine pu_ 10 26 (M_ 11 0) ?_
                refine done_ (done_of HT_.out (by kernel_rfl)) ?_
                try go_wp2
                refine k3_ (Kd.R_drew aj.out) (blk_drew al.out) (below_drew1 HB.out) ?_
                clear aj al HB
                intro aj al HB
                have su : (ai : Int) ≤ ((aw.length : Int) : Int) := of_decide_eq_true (Z4)
                obtain ⟨i026, hi026, _, hsz26, _⟩ := info_parts info76
                have hroom26 : aw.length ≤ dc := (Kd.R_reads' aj.out).2.1
                have hC26 : Kd.C k76 _ (some bt) aw.length aw := (Kd.R_reads' aj.out).2.2
                have hcut26 := cut_to (P := Tryz.prog) 58 76 .i64 Tryz.underlying58 hi026 (some bt) aw.length dc ai (of_decide_eq_true (Z4)) su hroom26
                have hr26 := Kd.C_take (m := (ai : Int).toNat) hC26 (by omega)
                have zA : db.length = (ai : Int).toNat := (by rw [iR.out, List.length_take]; omega)
                rw [← iR.out] at hr26
                rw [← zA] at hcut26
                have HR155 := Aside0.mk hr26
                have HC155 := Aside0.mk (show db.length ≤ dc from by omega)
                clear hr26 hC26 hroom26 hi026 hsz26
                have KY26 := Aside0.mk zA
                clear zA
                have KL26 := Aside0.mk (show (ai : Int).toNat ≤ aw.length from by omega)
                replace su := eq_true su
                have DK : (ai : Int) ≤ ((aw.length : Int) : Int) := of_decide_eq_true (Z4)
                obtain ⟨i027, hi027, _, hsz27, _⟩ := info_parts info76
                have hroom27 : aw.length ≤ dc := (Kd.R_reads' aj.out).2.1
                have hC27 : Kd.C k76 _ (some bt) aw.length aw := (Kd.R_reads' aj.out).2.2
                have q027 : (0 : Int) ≤ (ai : Int) := of_decide_eq_true (Z4)
                have hcut27 := cut_from (P := Tryz.prog) 58 76 .i64 Tryz.underlying58 hi027 3 hsz27 (some bt) aw.length dc ai q027 DK
                have hr27 := Kd.C_drop (m := (ai : Int).toNat) (c := dc) hC27 (by omega) hroom27
                obtain ⟨gS, hA27⟩ : ∃ A1, A1 = (if dc = (ai : Int).toNat then (some bt) else ((some bt) : Option Addr).map (·.add ((ai : Int).toNat * 3))) := ⟨_, rfl⟩
                obtain ⟨c27, hc27⟩ : ∃ c1, c1 = dc - (ai : Int).toNat := ⟨_, rfl⟩
                have v2 : b2.length = aw.length - (ai : Int).toNat := (by rw [iS.out, List.length_drop] <;> omega)
                rw [show (aw).drop (ai : Int).toNat = b2 from iS.out.symm] at hr27
                replace hr27 : Kd.C k76 _ gS b2.length b2 := (by rw [hA27]; exact hr27)
                rw [← v2, ← hA27, ← hc27] at hcut27
                have HR168 := Aside0.mk hr27
                have HC168 := Aside0.mk (show b2.length ≤ c27 from by rw [v2, hc27]; exact Nat.sub_le_sub_right hroom27 _)
                clear hr27 hC27 hroom27 hi027 hsz27 hc27
                have KY27 := Aside0.mk v2
                have r7 := Aside0.mk hA27
                clear v2 hA27
                have KL27 := Aside0.mk (show (ai : Int).toNat ≤ aw.length from by omega)
                replace DK := eq_true DK
                refine start_ (n := 13) (S := fun w' => w'.cell? ⟨av, 0, none⟩ = some (.int .i64 ((rd_T76 l0 ag).f0)) ∧ w'.cell? ⟨av, 1, none⟩ = some (.int .i64 ((rd_T76 l0 ag).f1)) ∧ w'.cell? ⟨av, 2, none⟩ = some (.int .i64 ((rd_T76 l0 ag).f2))) (ds := []) (M_ 0 13) (by kernel_rfl) rfl rfl ⟨(blk_cell al.out 0).trans rfl, (blk_cell al.out 1).trans rfl, (blk_cell al.out 2).trans rfl⟩ (fun hHeld => ?_); refine with_tabW spec_shSorted.tab8 spec_shSorted.bits8 (fun HT_ HW_ => ?_)
                generalize jE.drew = DL at aj al HB HR155 HR168 hHeld ⊢
                refine pu_ 1 30 (N_ 13 2) ?_
                refine pu_ 2 31 (N_ 13 6) ?_
                refine pu_ 3 32 (N_ 13 14) ?_
                refine pu_ 8 37 (N_ 13 270) ?_
                refine pu_ 9 38 (N_ 13 782) ?_
                refine pu_ 10 39 (N_ 13 1806) ?_
                refine tk3_ 5 34 (N_ 13 1838) hHeld ?_
                refine join_ (σ := Value × Value × Value) 3 (N_ 13 1919) (fun s_ => [(29, s_.1), (33, s_.2.1), (35, s_.2.2)]) (fun s_ w' => (w'.cell? ⟨av, 0, none⟩ = some (.int .i64 ((rd_T76 l0 ag).f0)) ∧ w'.cell? ⟨av, 1, none⟩ = some (.int .i64 ((rd_T76 l0 ag).f1)) ∧ w'.cell? ⟨av, 2, none⟩ = some (.int .i64 ((rd_T76 l0 ag).f2))) ∧ (Kd.R k76 76 w' w.heap.size (fun k_ => some k_ ≠ (s_.2.2 : Value).ownBlock ∧ some k_ ≠ (.slice (some bt) aw.length dc : Value).ownBlock ∧ k_ ≠ av) s_.2.1 eZ) ∧ (Kd.R k76 76 w' w.heap.size (fun k_ => some k_ ≠ (s_.2.1 : Value).ownBlock ∧ some k_ ≠ (.slice (some bt) aw.length dc : Value).ownBlock ∧ k_ ≠ av) s_.2.2 cU) ∧ (Kd.R k76 76 w' w.heap.size (fun k_ => some k_ ≠ (s_.2.1 : Value).ownBlock ∧ some k_ ≠ (s_.2.2 : Value).ownBlock ∧ k_ ≠ av) (.slice (some bt) aw.length dc) aw) ∧ (w'.heap[av]? = some (.cells #[.int .i64 ((rd_T76 l0 ag).f0), .int .i64 ((rd_T76 l0 ag).f1), .int .i64 ((rd_T76 l0 ag).f2)] 76 (0, 0))) ∧ (Below w.heap.size w w')) ?_ ?_
                rotate_left
                ·intro hCont
                 refine two_ (i := 0) (j := 6) (Ni := some 29) (Nj := some 35) (N_ 13 1839) (N_ 13 1902) rfl rfl rfl rfl (two_of HT_.out (by kernel_rfl)) (by decide) (by decide) (fun K hK => ?_) (fun K hK => ?_)
                 ·skip
                  refine Kd.R_lit_step k76 _ 76 ?hg (N := 29) ?hd (xs := ([] : List (S76))) (inner := []) (ok := fun _ => True) (okp := fun _ => True) ?hr ?hp (fun _ hk => hk) trivial (Below.refl _ _) (Nat.le_refl _) (by simp) ?_; (case hd => rfl); (case hg => rfl); (case hr => exact Z29); (case hp => exact (Reps.none _ _))
                  intro oH sv ho29 hb hg_ hnew_
                  clear hg_ hnew_
                  (first | rw [← rr.out] at ho29 | (simp only [Int.reduceToNat] at ho29; rw [← rr.out] at ho29))
                  have n0_ := Aside0.mk (Kd.R_elder' (Z1 aj) (Kd.R_base ho29) hb)
                  have n1_ := Aside0.mk (Kd.R_lower (Kd.R_newB (Kd.R_new' ho29 (Yd_ aj)) (g := av) (o := .cells #[.int .i64 ((rd_T76 l0 ag).f0), .int .i64 ((rd_T76 l0 ag).f1), .int .i64 ((rd_T76 l0 ag).f2)] 76 (0, 0)) (Z6 al)) (below_size (Z13)))
                  have n2_ := Aside0.mk (Ye_ al)
                  have n3_ := Aside0.mk (Kd.C_below (Z11 HR155) hb)
                  have n4_ := Aside0.mk (Kd.C_below (Z11 HR168) hb)
                  have n5_ := Aside0.mk (below_step (Z13) hb)
                  clear aj
                  clear al
                  clear HR155
                  clear HR168
                  clear HB
                  have aj := n0_
                  have eQ := n1_
                  have al := n2_
                  have HR155 := n3_
                  have HR168 := n4_
                  have HB := n5_
                  clear n0_ n1_ n2_ n3_ n4_ n5_
                  clear hb ho29
                  refine hK.out _ _ ⟨(blk_cell al.out 0).trans rfl, (blk_cell al.out 1).trans rfl, (blk_cell al.out 2).trans rfl⟩ (fun hHeld => ?_)
                  clear hK K
                  refine norm_ (a' := ?_) ?_ ?_
                  rotate_left
                  ·show Act.put _ (some 29) _ = _
                   simp only [Act.put, List.setIfInBounds_toArray, List.set_cons_zero, List.set_cons_succ, i64_w, i32_w]
                   rfl
                  refine two_ (i := 4) (j := 6) (Ni := some 33) (Nj := some 35) (N_ 13 1855) (N_ 13 1903) rfl rfl rfl rfl (two_of HT_.out (by kernel_rfl)) (by decide) (by decide) (fun K hK => ?_) (fun K hK => ?_)
                  ·skip
                   refine Kd.R_append_rows_step k76 (w0 := w) w.heap.size (by rfl) (.tmp 29) (.tmp 32) 58 76 (.agg #[(.int .i64 0), (.int .i64 0), (.int .i64 0)]) 24 rfl Tryz.underlying58 info76 rfl (by decide) (by omega) oH gM db _ _ _ (fun k_ => some k_ ≠ (.slice (some bt) aw.length dc : Value).ownBlock ∧ k_ ≠ av) (fun _ => False) rfl rfl ?aO ?aR (fun _ _ h => h) (fun _ h => h.elim) ?aF ?aB ?aS ?aL ?_
                   (case aR => exact Z116)
                   (case aB => exact Z13)
                   (case aF => exact (fun k_ hk => ⟨Kd.fresh' (Yd_ aj) k_ hk, Kd.freshB (g := av) (o := .cells #[.int .i64 ((rd_T76 l0 ag).f0), .int .i64 ((rd_T76 l0 ag).f1), .int .i64 ((rd_T76 l0 ag).f2)] 76 (0, 0)) (Z6 al) k_ hk⟩))
                   (case aO => exact (Z77 eQ))
                   (case aS => exact (below_size (Z13)))
                   (case aL => exact Z76 nl)
                   intro lH pq ho hb hg hat
                   rw [← uz.out] at ho
                   have n0_ := Aside0.mk (Kd.R_after (ok := (fun k_ => k_ ≠ av)) (Z1 aj) hg hat)
                   have n1_ := Aside0.mk (blk_grown (g := av) (o := .cells #[.int .i64 ((rd_T76 l0 ag).f0), .int .i64 ((rd_T76 l0 ag).f1), .int .i64 ((rd_T76 l0 ag).f2)] 76 (0, 0)) (Z6 al) hg (Kd.R_away eQ.out (fun _ hk => hk.2)))
                   have n2_ := Aside0.mk (hb)
                   have n3_ := Aside0.mk ((show Kd.C k76 pq (some bt) db.length db from by rw [iR.out]; exact Kd.C_take (m := (ai : Int).toNat) ((Kd.R_reads' (Kd.R_after (ok := (fun k_ => k_ ≠ av)) (Z1 aj) hg hat)).2.2) KL26.out))
                   have n4_ := Aside0.mk ((show Kd.C k76 pq gS b2.length b2 from by rw [iS.out, r7.out]; exact Kd.C_drop (m := (ai : Int).toNat) (c := dc) ((Kd.R_reads' (Kd.R_after (ok := (fun k_ => k_ ≠ av)) (Z1 aj) hg hat)).2.2) KL27.out ((Kd.R_reads' (Kd.R_after (ok := (fun k_ => k_ ≠ av)) (Z1 aj) hg hat)).2.1)))
                   have n5_ := Aside0.mk (ho)
                   clear aj
                   clear al
                   clear HB
                   clear HR155
                   clear HR168
                   clear eQ
                   have aj := n0_
                   have al := n1_
                   have HB := n2_
                   have HR155 := n3_
                   have HR168 := n4_
                   have fe := n5_
                   clear n0_ n1_ n2_ n3_ n4_ n5_
                   clear ho hb hg hat
                   refine hK.out _ _ ⟨(blk_cell al.out 0).trans rfl, (blk_cell al.out 1).trans rfl, (blk_cell al.out 2).trans rfl⟩ (fun hHeld => ?_)
                   clear hK K
                   refine norm_ (a' := ?_) ?_ ?_
                   rotate_left
                   ·show Act.put _ (some 33) _ = _
                    simp only [Act.put, List.setIfInBounds_toArray, List.set_cons_zero, List.set_cons_succ, i64_w, i32_w]
                    rfl
                   refine one_ (i := 6) (N := some 35) (N_ 13 1919) rfl rfl (one_of HT_.out (by kernel_rfl)) (by decide) (fun K hK => ?_)
                   refine Kd.R_lit_step k76 _ 76 ?hg (N := 35) ?hd (xs := ([(⟨((rd_T76 l0 ag).f0), ((rd_T76 l0 ag).f1), ((rd_T76 l0 ag).f2)⟩ : S76)] : List (S76))) (inner := [.int .i64 ((rd_T76 l0 ag).f0), .int .i64 ((rd_T76 l0 ag).f1), .int .i64 ((rd_T76 l0 ag).f2)]) (ok := fun _ => True) (okp := fun _ => True) ?hr ?hp (fun _ hk => hk) trivial (Below.refl _ _) (Nat.le_refl _) (by simp) ?_; (case hd => rfl); (case hg => rfl); (case hr => exact Z29); (case hp => exact (Reps.c3 (show Kd.M k76 _ _ _ (⟨((rd_T76 l0 ag).f0), ((rd_T76 l0 ag).f1), ((rd_T76 l0 ag).f2)⟩ : S76) [.int .i64 ((rd_T76 l0 ag).f0), .int .i64 ((rd_T76 l0 ag).f1), .int .i64 ((rd_T76 l0 ag).f2)] from (k76_mkM _ _ _ (⟨((rd_T76 l0 ag).f0), ((rd_T76 l0 ag).f1), ((rd_T76 l0 ag).f2)⟩ : S76) )) (Reps.none _ _)))
                   intro fE vz ho32 hb hg_ hnew_
                   clear hg_ hnew_
                   (first | rw [← l4.out] at ho32 | (simp only [Int.reduceToNat] at ho32; rw [← l4.out] at ho32))
                   have n0_ := Aside0.mk (Kd.R_elder' (Z1 aj) (Kd.R_base ho32) hb)
                   have n1_ := Aside0.mk (Kd.R_elder' (Z1 fe) (Kd.R_base ho32) hb)
                   have n2_ := Aside0.mk (Kd.R_lower (Kd.R_newB (Kd.R_new' (Kd.R_new' ho32 (Yd_ aj)) (Yd_ fe)) (g := av) (o := .cells #[.int .i64 ((rd_T76 l0 ag).f0), .int .i64 ((rd_T76 l0 ag).f1), .int .i64 ((rd_T76 l0 ag).f2)] 76 (0, 0)) (Z6 al)) (below_size (Z13)))
                   have n3_ := Aside0.mk (Ye_ al)
                   have n4_ := Aside0.mk (Kd.C_below (Z11 HR155) hb)
                   have n5_ := Aside0.mk (Kd.C_below (Z11 HR168) hb)
                   have n6_ := Aside0.mk (below_step (Z13) hb)
                   clear aj
                   clear fe
                   clear al
                   clear HR155
                   clear HR168
                   clear HB
                   have aj := n0_
                   have fe := n1_
                   have b7 := n2_
                   have al := n3_
                   have HR155 := n4_
                   have HR168 := n5_
                   have HB := n6_
                   clear n0_ n1_ n2_ n3_ n4_ n5_ n6_
                   clear hb ho32
                   refine hK.out _ _ ⟨(blk_cell al.out 0).trans rfl, (blk_cell al.out 1).trans rfl, (blk_cell al.out 2).trans rfl⟩ (fun hHeld => ?_)
                   clear hK K
                   refine norm_ (a' := ?_) ?_ ?_
                   rotate_left
                   ·show Act.put _ (some 35) _ = _
                    simp only [Act.put, List.setIfInBounds_toArray, List.set_cons_zero, List.set_cons_succ, i64_w, i32_w]
                    rfl
                   exact norm_ (Z53) (hCont (oH, lH, fE) _ ⟨hHeld, (Z55 fe), (Z160 b7), (Z150), (Z6 al), (Z13)⟩)
                  skip
                  refine Kd.R_lit_step k76 _ 76 ?hg (N := 35) ?hd (xs := ([(⟨((rd_T76 l0 ag).f0), ((rd_T76 l0 ag).f1), ((rd_T76 l0 ag).f2)⟩ : S76)] : List (S76))) (inner := [.int .i64 ((rd_T76 l0 ag).f0), .int .i64 ((rd_T76 l0 ag).f1), .int .i64 ((rd_T76 l0 ag).f2)]) (ok := fun _ => True) (okp := fun _ => True) ?hr ?hp (fun _ hk => hk) trivial (Below.refl _ _) (Nat.le_refl _) (by simp) ?_; (case hd => rfl); (case hg => rfl); (case hr => exact Z29); (case hp => exact (Reps.c3 (show Kd.M k76 _ _ _ (⟨((rd_T76 l0 ag).f0), ((rd_T76 l0 ag).f1), ((rd_T76 l0 ag).f2)⟩ : S76) [.int .i64 ((rd_T76 l0 ag).f0), .int .i64 ((rd_T76 l0 ag).f1), .int .i64 ((rd_T76 l0 ag).f2)] from (k76_mkM _ _ _ (⟨((rd_T76 l0 ag).f0), ((rd_T76 l0 ag).f1), ((rd_T76 l0 ag).f2)⟩ : S76) )) (Reps.none _ _)))
                  intro fE pq ho31 hb hg_ hnew_
                  clear hg_ hnew_
                  (first | rw [← l4.out] at ho31 | (simp only [Int.reduceToNat] at ho31; rw [← l4.out] at ho31))
                  have n0_ := Aside0.mk (Kd.R_elder' (Z1 aj) (Kd.R_base ho31) hb)
                  have n1_ := Aside0.mk (Kd.R_elder' (Z1 eQ) (Kd.R_base ho31) hb)
                  have n2_ := Aside0.mk (Kd.R_lower (Kd.R_newB (Kd.R_new' (Kd.R_new' ho31 (Yd_ aj)) (Yd_ eQ)) (g := av) (o := .cells #[.int .i64 ((rd_T76 l0 ag).f0), .int .i64 ((rd_T76 l0 ag).f1), .int .i64 ((rd_T76 l0 ag).f2)] 76 (0, 0)) (Z6 al)) (below_size (Z13)))
                  have n3_ := Aside0.mk (Ye_ al)
                  have n4_ := Aside0.mk (Kd.C_below (Z11 HR155) hb)
                  have n5_ := Aside0.mk (Kd.C_below (Z11 HR168) hb)
                  have n6_ := Aside0.mk (below_step (Z13) hb)
                  clear aj
                  clear eQ
                  clear al
                  clear HR155
                  clear HR168
                  clear HB
                  have aj := n0_
                  have eQ := n1_
                  have b7 := n2_
                  have al := n3_
                  have HR155 := n4_
                  have HR168 := n5_
                  have HB := n6_
                  clear n0_ n1_ n2_ n3_ n4_ n5_ n6_
                  clear hb ho31
                  refine hK.out _ _ ⟨(blk_cell al.out 0).trans rfl, (blk_cell al.out 1).trans rfl, (blk_cell al.out 2).trans rfl⟩ (fun hHeld => ?_)
                  clear hK K
                  refine norm_ (a' := ?_) ?_ ?_
                  rotate_left
                  ·show Act.put _ (some 35) _ = _
                   simp only [Act.put, List.setIfInBounds_toArray, List.set_cons_zero, List.set_cons_succ, i64_w, i32_w]
                   rfl
                  refine one_ (i := 4) (N := some 33) (N_ 13 1919) rfl rfl (one_of HT_.out (by kernel_rfl)) (by decide) (fun K hK => ?_)
                  refine Kd.R_append_rows_step k76 (w0 := w) w.heap.size (by rfl) (.tmp 29) (.tmp 32) 58 76 (.agg #[(.int .i64 0), (.int .i64 0), (.int .i64 0)]) 24 rfl Tryz.underlying58 info76 rfl (by decide) (by omega) oH gM db _ _ _ (fun k_ => some k_ ≠ (.slice (some bt) aw.length dc : Value).ownBlock ∧ some k_ ≠ (fE : Value).ownBlock ∧ k_ ≠ av) (fun _ => False) rfl rfl ?aO ?aR (fun _ _ h => h) (fun _ h => h.elim) ?aF ?aB ?aS ?aL ?_
                  (case aR => exact Z116)
                  (case aB => exact Z13)
                  (case aF => exact (fun k_ hk => ⟨Kd.fresh' (Yd_ aj) k_ hk, Kd.fresh' (Yd_ b7) k_ hk, Kd.freshB (g := av) (o := .cells #[.int .i64 ((rd_T76 l0 ag).f0), .int .i64 ((rd_T76 l0 ag).f1), .int .i64 ((rd_T76 l0 ag).f2)] 76 (0, 0)) (Z6 al) k_ hk⟩))
                  (case aO => exact (Z161 eQ))
                  (case aS => exact (below_size (Z13)))
                  (case aL => exact Z76 nl)
                  intro lH sw ho hb hg hat
                  rw [← uz.out] at ho
                  have n0_ := Aside0.mk (Kd.R_after (ok := (fun k_ => some k_ ≠ (fE : Value).ownBlock ∧ k_ ≠ av)) (Z61) hg hat)
                  have n1_ := Aside0.mk (blk_grown (g := av) (o := .cells #[.int .i64 ((rd_T76 l0 ag).f0), .int .i64 ((rd_T76 l0 ag).f1), .int .i64 ((rd_T76 l0 ag).f2)] 76 (0, 0)) (Z6 al) hg (Kd.R_away eQ.out (fun _ hk => hk.1.2)))
                  have n2_ := Aside0.mk (Kd.R_after (ok := (fun k_ => some k_ ≠ (.slice (some bt) aw.length dc : Value).ownBlock ∧ k_ ≠ av)) (Z162 b7) hg hat)
                  have n3_ := Aside0.mk (hb)
                  have n4_ := Aside0.mk ((show Kd.C k76 sw (some bt) db.length db from by rw [iR.out]; exact Kd.C_take (m := (ai : Int).toNat) ((Kd.R_reads' (Kd.R_after (ok := (fun k_ => some k_ ≠ (fE : Value).ownBlock ∧ k_ ≠ av)) (Z61) hg hat)).2.2) KL26.out))
                  have n5_ := Aside0.mk ((show Kd.C k76 sw gS b2.length b2 from by rw [iS.out, r7.out]; exact Kd.C_drop (m := (ai : Int).toNat) (c := dc) ((Kd.R_reads' (Kd.R_after (ok := (fun k_ => some k_ ≠ (fE : Value).ownBlock ∧ k_ ≠ av)) (Z61) hg hat)).2.2) KL27.out ((Kd.R_reads' (Kd.R_after (ok := (fun k_ => some k_ ≠ (fE : Value).ownBlock ∧ k_ ≠ av)) (Z61) hg hat)).2.1)))
                  have n6_ := Aside0.mk (ho)
                  clear aj
                  clear al
                  clear b7
                  clear HB
                  clear HR155
                  clear HR168
                  clear eQ
                  have aj := n0_
                  have al := n1_
                  have b7 := n2_
                  have HB := n3_
                  have HR155 := n4_
                  have HR168 := n5_
                  have fe := n6_
                  clear n0_ n1_ n2_ n3_ n4_ n5_ n6_
                  clear ho hb hg hat
                  refine hK.out _ _ ⟨(blk_cell al.out 0).trans rfl, (blk_cell al.out 1).trans rfl, (blk_cell al.out 2).trans rfl⟩ (fun hHeld => ?_)
                  clear hK K
                  refine norm_ (a' := ?_) ?_ ?_
                  rotate_left
                  ·show Act.put _ (some 33) _ = _
                   simp only [Act.put, List.setIfInBounds_toArray, List.set_cons_zero, List.set_cons_succ, i64_w, i32_w]
                   rfl
                  exact norm_ (Z53) (hCont (oH, lH, fE) _ ⟨hHeld, (Z67 fe), (Z55 b7), (Z55 aj), (Z6 al), (Z13)⟩)
                 skip
                 refine Kd.R_lit_step k76 _ 76 ?hg (N := 35) ?hd (xs := ([(⟨((rd_T76 l0 ag).f0), ((rd_T76 l0 ag).f1), ((rd_T76 l0 ag).f2)⟩ : S76)] : List (S76))) (inner := [.int .i64 ((rd_T76 l0 ag).f0), .int .i64 ((rd_T76 l0 ag).f1), .int .i64 ((rd_T76 l0 ag).f2)]) (ok := fun _ => True) (okp := fun _ => True) ?hr ?hp (fun _ hk => hk) trivial (Below.refl _ _) (Nat.le_refl _) (by simp) ?_; (case hd => rfl); (case hg => rfl); (case hr => exact Z29); (case hp => exact (Reps.c3 (show Kd.M k76 _ _ _ (⟨((rd_T76 l0 ag).f0), ((rd_T76 l0 ag).f1), ((rd_T76 l0 ag).f2)⟩ : S76) [.int .i64 ((rd_T76 l0 ag).f0), .int .i64 ((rd_T76 l0 ag).f1), .int .i64 ((rd_T76 l0 ag).f2)] from (k76_mkM _ _ _ (⟨((rd_T76 l0 ag).f0), ((rd_T76 l0 ag).f1), ((rd_T76 l0 ag).f2)⟩ : S76) )) (Reps.none _ _)))
                 intro fE sv ho29 hb hg_ hnew_
                 clear hg_ hnew_
                 (first | rw [← l4.out] at ho29 | (simp only [Int.reduceToNat] at ho29; rw [← l4.out] at ho29))
                 have n0_ := Aside0.mk (Kd.R_elder' (Z1 aj) (Kd.R_base ho29) hb)
                 have n1_ := Aside0.mk (Kd.R_lower (Kd.R_newB (Kd.R_new' ho29 (Yd_ aj)) (g := av) (o := .cells #[.int .i64 ((rd_T76 l0 ag).f0), .int .i64 ((rd_T76 l0 ag).f1), .int .i64 ((rd_T76 l0 ag).f2)] 76 (0, 0)) (Z6 al)) (below_size (Z13)))
                 have n2_ := Aside0.mk (Ye_ al)
                 have n3_ := Aside0.mk (Kd.C_below (Z11 HR155) hb)
                 have n4_ := Aside0.mk (Kd.C_below (Z11 HR168) hb)
                 have n5_ := Aside0.mk (below_step (Z13) hb)
                 clear aj
                 clear al
                 clear HR155
                 clear HR168
                 clear HB
                 have aj := n0_
                 have b7 := n1_
                 have al := n2_
                 have HR155 := n3_
                 have HR168 := n4_
                 have HB := n5_
                 clear n0_ n1_ n2_ n3_ n4_ n5_
                 clear hb ho29
                 refine hK.out _ _ ⟨(blk_cell al.out 0).trans rfl, (blk_cell al.out 1).trans rfl, (blk_cell al.out 2).trans rfl⟩ (fun hHeld => ?_)
                 clear hK K
                 refine norm_ (a' := ?_) ?_ ?_
                 rotate_left
                 ·show Act.put _ (some 35) _ = _
                  simp only [Act.put, List.setIfInBounds_toArray, List.set_cons_zero, List.set_cons_succ, i64_w, i32_w]
                  rfl
                 refine one_ (i := 0) (N := some 29) (N_ 13 1903) rfl rfl (one_of HT_.out (by kernel_rfl)) (by decide) (fun K hK => ?_)
                 refine Kd.R_lit_step k76 _ 76 ?hg (N := 29) ?hd (xs := ([] : List (S76))) (inner := []) (ok := fun _ => True) (okp := fun _ => True) ?hr ?hp (fun _ hk => hk) trivial (Below.refl _ _) (Nat.le_refl _) (by simp) ?_; (case hd => rfl); (case hg => rfl); (case hr => exact Z29); (case hp => exact (Reps.none _ _))
                 intro oH pq ho31 hb hg_ hnew_
                 clear hg_ hnew_
                 (first | rw [← rr.out] at ho31 | (simp only [Int.reduceToNat] at ho31; rw [← rr.out] at ho31))
                 have n0_ := Aside0.mk (Kd.R_elder' (Z1 aj) (Kd.R_base ho31) hb)
                 have n1_ := Aside0.mk (Kd.R_elder' (Z1 b7) (Kd.R_base ho31) hb)
                 have n2_ := Aside0.mk (Kd.R_lower (Kd.R_newB (Kd.R_new' (Kd.R_new' ho31 (Yd_ aj)) (Yd_ b7)) (g := av) (o := .cells #[.int .i64 ((rd_T76 l0 ag).f0), .int .i64 ((rd_T76 l0 ag).f1), .int .i64 ((rd_T76 l0 ag).f2)] 76 (0, 0)) (Z6 al)) (below_size (Z13)))
                 have n3_ := Aside0.mk (Ye_ al)
                 have n4_ := Aside0.mk (Kd.C_below (Z11 HR155) hb)
                 have n5_ := Aside0.mk (Kd.C_below (Z11 HR168) hb)
                 have n6_ := Aside0.mk (below_step (Z13) hb)
                 clear aj
                 clear b7
                 clear al
                 clear HR155
                 clear HR168
                 clear HB
                 have aj := n0_
                 have b7 := n1_
                 have eQ := n2_
                 have al := n3_
                 have HR155 := n4_
                 have HR168 := n5_
                 have HB := n6_
                 clear n0_ n1_ n2_ n3_ n4_ n5_ n6_
                 clear hb ho31
                 refine hK.out _ _ ⟨(blk_cell al.out 0).trans rfl, (blk_cell al.out 1).trans rfl, (blk_cell al.out 2).trans rfl⟩ (fun hHeld => ?_)
                 clear hK K
                 refine norm_ (a' := ?_) ?_ ?_
                 rotate_left
                 ·show Act.put _ (some 29) _ = _
                  simp only [Act.put, List.setIfInBounds_toArray, List.set_cons_zero, List.set_cons_succ, i64_w, i32_w]
                  rfl
                 refine one_ (i := 4) (N := some 33) (N_ 13 1919) rfl rfl (one_of HT_.out (by kernel_rfl)) (by decide) (fun K hK => ?_)
                 refine Kd.R_append_rows_step k76 (w0 := w) w.heap.size (by rfl) (.tmp 29) (.tmp 32) 58 76 (.agg #[(.int .i64 0), (.int .i64 0), (.int .i64 0)]) 24 rfl Tryz.underlying58 info76 rfl (by decide) (by omega) oH gM db _ _ _ (fun k_ => some k_ ≠ (.slice (some bt) aw.length dc : Value).ownBlock ∧ some k_ ≠ (fE : Value).ownBlock ∧ k_ ≠ av) (fun _ => False) rfl rfl ?aO ?aR (fun _ _ h => h) (fun _ h => h.elim) ?aF ?aB ?aS ?aL ?_
                 (case aR => exact Z116)
                 (case aB => exact Z13)
                 (case aF => exact (fun k_ hk => ⟨Kd.fresh' (Yd_ aj) k_ hk, Kd.fresh' (Yd_ b7) k_ hk, Kd.freshB (g := av) (o := .cells #[.int .i64 ((rd_T76 l0 ag).f0), .int .i64 ((rd_T76 l0 ag).f1), .int .i64 ((rd_T76 l0 ag).f2)] 76 (0, 0)) (Z6 al) k_ hk⟩))
                 (case aO => exact (Z91 eQ))
                 (case aS => exact (below_size (Z13)))
                 (case aL => exact Z76 nl)
                 intro lH sw ho hb hg hat
                 rw [← uz.out] at ho
                 have n0_ := Aside0.mk (Kd.R_after (ok := (fun k_ => some k_ ≠ (fE : Value).ownBlock ∧ k_ ≠ av)) (Z62) hg hat)
                 have n1_ := Aside0.mk (blk_grown (g := av) (o := .cells #[.int .i64 ((rd_T76 l0 ag).f0), .int .i64 ((rd_T76 l0 ag).f1), .int .i64 ((rd_T76 l0 ag).f2)] 76 (0, 0)) (Z6 al) hg (Kd.R_away eQ.out (fun _ hk => hk.2)))
                 have n2_ := Aside0.mk (Kd.R_after (ok := (fun k_ => some k_ ≠ (.slice (some bt) aw.length dc : Value).ownBlock ∧ k_ ≠ av)) (Z163 b7) hg hat)
                 have n3_ := Aside0.mk (hb)
                 have n4_ := Aside0.mk ((show Kd.C k76 sw (some bt) db.length db from by rw [iR.out]; exact Kd.C_take (m := (ai : Int).toNat) ((Kd.R_reads' (Kd.R_after (ok := (fun k_ => some k_ ≠ (fE : Value).ownBlock ∧ k_ ≠ av)) (Z62) hg hat)).2.2) KL26.out))
                 have n5_ := Aside0.mk ((show Kd.C k76 sw gS b2.length b2 from by rw [iS.out, r7.out]; exact Kd.C_drop (m := (ai : Int).toNat) (c := dc) ((Kd.R_reads' (Kd.R_after (ok := (fun k_ => some k_ ≠ (fE : Value).ownBlock ∧ k_ ≠ av)) (Z62) hg hat)).2.2) KL27.out ((Kd.R_reads' (Kd.R_after (ok := (fun k_ => some k_ ≠ (fE : Value).ownBlock ∧ k_ ≠ av)) (Z62) hg hat)).2.1)))
                 have n6_ := Aside0.mk (ho)
                 clear aj
                 clear al
                 clear b7
                 clear HB
                 clear HR155
                 clear HR168
                 clear eQ
                 have aj := n0_
                 have al := n1_
                 have b7 := n2_
                 have HB := n3_
                 have HR155 := n4_
                 have HR168 := n5_
                 have fe := n6_
                 clear n0_ n1_ n2_ n3_ n4_ n5_ n6_
                 clear ho hb hg hat
                 refine hK.out _ _ ⟨(blk_cell al.out 0).trans rfl, (blk_cell al.out 1).trans rfl, (blk_cell al.out 2).trans rfl⟩ (fun hHeld => ?_)
                 clear hK K
                 refine norm_ (a' := ?_) ?_ ?_
                 rotate_left
                 ·show Act.put _ (some 33) _ = _
                  simp only [Act.put, List.setIfInBounds_toArray, List.set_cons_zero, List.set_cons_succ, i64_w, i32_w]
                  rfl
                 exact norm_ (Z53) (hCont (oH, lH, fE) _ ⟨hHeld, (Z67 fe), (Z55 b7), (Z55 aj), (Z6 al), (Z13)⟩)
                rintro ⟨oH, lH, fE⟩ ir ⟨hS_, h0_, h1_, h2_, h3_, h4_⟩
                have n0_ : Aside0 (Kd.R k76 76 ir w.heap.size (fun k_ => some k_ ≠ (fE : Value).ownBlock ∧ some k_ ≠ (.slice (some bt) aw.length dc : Value).ownBlock ∧ k_ ≠ av) lH eZ) := ⟨h0_⟩
                have n1_ : Aside0 (Kd.R k76 76 ir w.heap.size (fun k_ => some k_ ≠ (lH : Value).ownBlock ∧ some k_ ≠ (.slice (some bt) aw.length dc : Value).ownBlock ∧ k_ ≠ av) fE cU) := ⟨h1_⟩
                have n2_ : Aside0 (Kd.R k76 76 ir w.heap.size (fun k_ => some k_ ≠ (lH : Value).ownBlock ∧ some k_ ≠ (fE : Value).ownBlock ∧ k_ ≠ av) (.slice (some bt) aw.length dc) aw) := ⟨h2_⟩
                have n3_ : Aside0 (ir.heap[av]? = some (.cells #[.int .i64 ((rd_T76 l0 ag).f0), .int .i64 ((rd_T76 l0 ag).f1), .int .i64 ((rd_T76 l0 ag).f2)] 76 (0, 0))) := ⟨h3_⟩
                have n4_ : Aside0 (Below w.heap.size w ir) := ⟨h4_⟩
                clear aj
                clear al
                clear HB
                clear h0_ h1_ h2_ h3_ h4_
                have fe := n0_
                have b7 := n1_
                have aj := n2_
                have al := n3_
                have HB := n4_
                clear n0_ n1_ n2_ n3_ n4_
                have hHeld : ir.cell? ⟨av, 0, none⟩ = some (.int .i64 ((rd_T76 l0 ag).f0)) ∧ ir.cell? ⟨av, 1, none⟩ = some (.int .i64 ((rd_T76 l0 ag).f1)) ∧ ir.cell? ⟨av, 2, none⟩ = some (.int .i64 ((rd_T76 l0 ag).f2)) := hS_
                have n_ := Aside0.mk (show Kd.C k76 _ (some bt) db.length db from by rw [iR.out]; exact Kd.C_take (m := (ai : Int).toNat) ((Kd.R_reads' aj.out).2.2) KL26.out)
                (try clear HR155)
                have HR155 := n_
                clear n_
                have n_ := Aside0.mk (show Kd.C k76 _ gS b2.length b2 from by rw [iS.out, r7.out]; exact Kd.C_drop (m := (ai : Int).toNat) (c := dc) ((Kd.R_reads' aj.out).2.2) KL27.out ((Kd.R_reads' aj.out).2.1))
                (try clear HR168)
                have HR168 := n_
                clear n_
                obtain ⟨jX, ia, v8⟩ := Kd.R_slice b7.out
                (first | subst v8 | (injection v8 with f1_ f2_ f3_; have f4_ := f1_.symm; have f5_ := f3_.symm; clear f1_ f2_ f3_; subst f4_; subst f5_))
                refine norm_ (a' := ?_) ?_ ?_
                rotate_left
                ·simp only [putAll, Act.put, List.setIfInBounds_toArray, List.set_cons_zero, List.set_cons_succ]
                 rfl
                refine one_ (i := 7) (N := some 36) (M_ 11 2) rfl rfl (one_of HT_.out (by kernel_rfl)) (by decide) (fun K hK => ?_)
                refine Kd.R_append_rows_step k76 (w0 := w) w.heap.size (by rfl) (.tmp 33) (.tmp 35) 58 76 (.agg #[(.int .i64 0), (.int .i64 0), (.int .i64 0)]) 24 rfl Tryz.underlying58 info76 rfl (by decide) (by omega) lH eZ cU _ _ _ (fun k_ => some k_ ≠ (.slice (some bt) aw.length dc : Value).ownBlock ∧ some k_ ≠ (.slice jX cU.length ia : Value).ownBlock ∧ k_ ≠ av) (fun _ => False) rfl rfl ?aO ?aR (fun _ _ h => h) (fun _ h => h.elim) ?aF ?aB ?aS ?aL ?_
                (case aR => exact Z5 b7)
                (case aB => exact Z13)
                (case aF => exact (fun k_ hk => ⟨Kd.fresh' (Yd_ aj) k_ hk, Kd.fresh' (Yd_ b7) k_ hk, Kd.freshB (g := av) (o := .cells #[.int .i64 ((rd_T76 l0 ag).f0), .int .i64 ((rd_T76 l0 ag).f1), .int .i64 ((rd_T76 l0 ag).f2)] 76 (0, 0)) (Z6 al) k_ hk⟩))
                (case aO => exact (Z67 fe))
                (case aS => exact (below_size (Z13)))
                (case aL => exact Z76 uA)
                intro v163 ne ho hb hg hat
                rw [← Ny162.out] at ho
                have n0_ := Aside0.mk (Kd.R_after (ok := (fun k_ => some k_ ≠ (.slice jX cU.length ia : Value).ownBlock ∧ k_ ≠ av)) (Z56 aj) hg hat)
                have n1_ := Aside0.mk (blk_grown (g := av) (o := .cells #[.int .i64 ((rd_T76 l0 ag).f0), .int .i64 ((rd_T76 l0 ag).f1), .int .i64 ((rd_T76 l0 ag).f2)] 76 (0, 0)) (Z6 al) hg (Kd.R_away fe.out (fun _ hk => hk.2.2)))
                have n2_ := Aside0.mk (Kd.R_after (ok := (fun k_ => some k_ ≠ (.slice (some bt) aw.length dc : Value).ownBlock ∧ k_ ≠ av)) (Z56 b7) hg hat)
                have n3_ := Aside0.mk (hb)
                have n4_ := Aside0.mk ((show Kd.C k76 ne (some bt) db.length db from by rw [iR.out]; exact Kd.C_take (m := (ai : Int).toNat) ((Kd.R_reads' (Kd.R_after (ok := (fun k_ => some k_ ≠ (.slice jX cU.length ia : Value).ownBlock ∧ k_ ≠ av)) (Z56 aj) hg hat)).2.2) KL26.out))
                have n5_ := Aside0.mk ((show Kd.C k76 ne gS b2.length b2 from by rw [iS.out, r7.out]; exact Kd.C_drop (m := (ai : Int).toNat) (c := dc) ((Kd.R_reads' (Kd.R_after (ok := (fun k_ => some k_ ≠ (.slice jX cU.length ia : Value).ownBlock ∧ k_ ≠ av)) (Z56 aj) hg hat)).2.2) KL27.out ((Kd.R_reads' (Kd.R_after (ok := (fun k_ => some k_ ≠ (.slice jX cU.length ia : Value).ownBlock ∧ k_ ≠ av)) (Z56 aj) hg hat)).2.1)))
                have n6_ := Aside0.mk (ho)
                clear aj
                clear al
                clear b7
                clear HB
                clear HR155
                clear HR168
                clear fe
                have aj := n0_
                have al := n1_
                have b7 := n2_
                have HB := n3_
                have HR155 := n4_
                have HR168 := n5_
                have uB := n6_
                clear n0_ n1_ n2_ n3_ n4_ n5_ n6_
                clear ho hb hg hat
                refine hK.out _ _ ⟨(blk_cell al.out 0).trans rfl, (blk_cell al.out 1).trans rfl, (blk_cell al.out 2).trans rfl⟩ (fun hHeld => ?_)
                clear hK K
                refine norm_ (a' := ?_) ?_ ?_
                rotate_left
                ·show Act.put _ (some 36) _ = _
                 simp only [Act.put, List.setIfInBounds_toArray, List.set_cons_zero, List.set_cons_succ, i64_w, i32_w]
                 rfl
                refine one_ (i := 11) (N := some 40) (M_ 12 1) rfl rfl (one_of HT_.out (by kernel_rfl)) (by decide) (fun K hK => ?_)
                refine Kd.R_append_rows_step k76 (w0 := w) w.heap.size (by rfl) (.tmp 36) (.tmp 39) 58 76 (.agg #[(.int .i64 0), (.int .i64 0), (.int .i64 0)]) 24 rfl Tryz.underlying58 info76 rfl (by decide) (by omega) v163 d4 b2 _ _ _ (fun k_ => some k_ ≠ (.slice (some bt) aw.length dc : Value).ownBlock ∧ some k_ ≠ (.slice jX cU.length ia : Value).ownBlock ∧ k_ ≠ av) (fun _ => False) rfl rfl ?aO ?aR (fun _ _ h => h) (fun _ h => h.elim) ?aF ?aB ?aS ?aL ?_
                (case aR => repeat (first | exact (Z11 HR168) | (with_reducible refine Kd.C_alloc ?_ _) | (with_reducible refine Kd.C_drewN ?_ _) | (with_reducible refine Kd.C_drew ?_)))
                (case aB => exact Z13)
                (case aF => exact (fun k_ hk => ⟨Kd.fresh' (Yd_ aj) k_ hk, Kd.fresh' (Yd_ b7) k_ hk, Kd.freshB (g := av) (o := .cells #[.int .i64 ((rd_T76 l0 ag).f0), .int .i64 ((rd_T76 l0 ag).f1), .int .i64 ((rd_T76 l0 ag).f2)] 76 (0, 0)) (Z6 al) k_ hk⟩))
                (case aO => exact (Z1 uB))
                (case aS => exact (below_size (Z13)))
                (case aL => exact Z76 tC)
                intro v170 eF ho hb hg hat
                rw [← Ny169.out] at ho
                have n0_ := Aside0.mk (Kd.R_after (ok := (fun k_ => some k_ ≠ (.slice jX cU.length ia : Value).ownBlock ∧ k_ ≠ av)) (Z1 aj) hg hat)
                have n1_ := Aside0.mk (blk_grown (g := av) (o := .cells #[.int .i64 ((rd_T76 l0 ag).f0), .int .i64 ((rd_T76 l0 ag).f1), .int .i64 ((rd_T76 l0 ag).f2)] 76 (0, 0)) (Z6 al) hg (Kd.R_away uB.out (fun _ hk => hk.2.2)))
                have n2_ := Aside0.mk (Kd.R_after (ok := (fun k_ => some k_ ≠ (.slice (some bt) aw.length dc : Value).ownBlock ∧ k_ ≠ av)) (Z1 b7) hg hat)
                have n3_ := Aside0.mk (hb)
                have n4_ := Aside0.mk ((show Kd.C k76 eF (some bt) db.length db from by rw [iR.out]; exact Kd.C_take (m := (ai : Int).toNat) ((Kd.R_reads' (Kd.R_after (ok := (fun k_ => some k_ ≠ (.slice jX cU.length ia : Value).ownBlock ∧ k_ ≠ av)) (Z1 aj) hg hat)).2.2) KL26.out))
                have n5_ := Aside0.mk ((show Kd.C k76 eF gS b2.length b2 from by rw [iS.out, r7.out]; exact Kd.C_drop (m := (ai : Int).toNat) (c := dc) ((Kd.R_reads' (Kd.R_after (ok := (fun k_ => some k_ ≠ (.slice jX cU.length ia : Value).ownBlock ∧ k_ ≠ av)) (Z1 aj) hg hat)).2.2) KL27.out ((Kd.R_reads' (Kd.R_after (ok := (fun k_ => some k_ ≠ (.slice jX cU.length ia : Value).ownBlock ∧ k_ ≠ av)) (Z1 aj) hg hat)).2.1)))
                have n6_ := Aside0.mk (ho)
                clear aj
                clear al
                clear b7
                clear HB
                clear HR155
                clear HR168
                clear uB
                have aj := n0_
                have al := n1_
                have b7 := n2_
                have HB := n3_
                have HR155 := n4_
                have HR168 := n5_
                have HO171 := n6_
                clear n0_ n1_ n2_ n3_ n4_ n5_ n6_
                clear ho hb hg hat
                refine hK.out _ _ ⟨(blk_cell al.out 0).trans rfl, (blk_cell al.out 1).trans rfl, (blk_cell al.out 2).trans rfl⟩ (fun hHeld => ?_)
                clear hK K
                refine norm_ (a' := ?_) ?_ ?_
                rotate_left
                ·show Act.put _ (some 40) _ = _
                 simp only [Act.put, List.setIfInBounds_toArray, List.set_cons_zero, List.set_cons_succ, i64_w, i32_w]
                 rfl
                refine pu_ 12 4 (M_ 13 0) ?_
                refine done_ (done_of HT_.out (by kernel_rfl)) ?_
                try go_wp2
                go_roundg k2
                case measure => have := HK1.out; have := HK2.out; omega
                case rel => exact ⟨(BZ), (wrap64 (ag + 1)), (Z16), H', ⟨Z115 HK1⟩, ⟨Z35 HO171⟩, ⟨Z13⟩⟩
               rw [if_neg c22] at H
               exact absurd H (by simp)
              rw [if_neg c19] at H
              exact absurd H (by simp)
             rw [if_neg c18] at H
             exact absurd H (by simp)
            rw [if_neg c17] at H
            exact absurd H (by simp)
           rw [if_neg c16] at H
           exact absurd H (by simp)
          rw [if_neg c11] at H
          exact absurd H (by simp)
         rw [if_neg c10] at H
         exact absurd H (by simp)
        rw [if_neg c8] at H
        have g7 : decide (0 < ai) = false := decide_eq_false c8
        clear c8
        obtain ⟨i4, oI⟩ : ∃ y_ : List (S76), y_ = (([] : List (S76))) := ⟨_, rfl⟩
        replace H : (if 0 ≤ ai then (if ai ≤ (aw.length : Int) then ((some (aw.take (ai : Int).toNat : List (S76))).bind fun dv => (if i4.length + dv.length < 5864062014805 then ((some (i4 ++ dv : List (S76))).bind fun fR => ((some (([(⟨((rd_T76 l0 ag).f0), ((rd_T76 l0 ag).f1), ((rd_T76 l0 ag).f2)⟩ : S76)] : List (S76)) : List (S76))).bind fun dh => (if fR.length + dh.length < 5864062014805 then ((some (fR ++ dh : List (S76))).bind fun eA => ((some (aw.drop (ai : Int).toNat : List (S76))).bind fun cf => (if eA.length + cf.length < 5864062014805 then (spec_shSorted.l0 k2 (eA ++ cf) l0 (l0.length : Int) (wrap64 (ag + 1))) else (none)))) else (none)))) else (none))) else (none)) else (none)) = some (r1, r2) := by first | (rw [oI]; with_reducible exact H) | (have H2_ := (Option.bind_some _ _).symm.trans H; rw [oI]; with_reducible exact H2_) | (have H2_ := (Option.bind_some _ _).symm.trans H; with_reducible exact H2_) | with_reducible exact H | (rw [oI]; exact H) | exact H
        have rt := Aside0.mk oI
        clear oI
        by_cases c37 : 0 ≤ ai
        ·rw [if_pos c37] at H
         have oJ := eq_true c37
         have oK : decide (0 ≤ ai) = true := decide_eq_true c37
         clear c37
         by_cases c38 : ai ≤ (aw.length : Int)
         ·rw [if_pos c38] at H
          have c38b0 := eq_true c38
          have c38b1 : decide (ai ≤ (aw.length : Int)) = true := decide_eq_true c38
          clear c38
          obtain ⟨dv, oL⟩ : ∃ y_ : List (S76), y_ = (aw.take (ai : Int).toNat) := ⟨_, rfl⟩
          replace H : (if i4.length + dv.length < 5864062014805 then ((some (i4 ++ dv : List (S76))).bind fun fR => ((some (([(⟨((rd_T76 l0 ag).f0), ((rd_T76 l0 ag).f1), ((rd_T76 l0 ag).f2)⟩ : S76)] : List (S76)) : List (S76))).bind fun dh => (if fR.length + dh.length < 5864062014805 then ((some (fR ++ dh : List (S76))).bind fun eA => ((some (aw.drop (ai : Int).toNat : List (S76))).bind fun cf => (if eA.length + cf.length < 5864062014805 then (spec_shSorted.l0 k2 (eA ++ cf) l0 (l0.length : Int) (wrap64 (ag + 1))) else (none)))) else (none)))) else (none)) = some (r1, r2) := by first | (rw [oL]; with_reducible exact H) | (have H2_ := (Option.bind_some _ _).symm.trans H; rw [oL]; with_reducible exact H2_) | (have H2_ := (Option.bind_some _ _).symm.trans H; with_reducible exact H2_) | with_reducible exact H | (rw [oL]; exact H) | exact H
          have iT := Aside0.mk oL
          clear oL
          by_cases c39 : i4.length + dv.length < 5864062014805
          ·rw [if_pos c39] at H
           have uC := Aside0.mk c39
           clear c39
           obtain ⟨fR, oM⟩ : ∃ y_ : List (S76), y_ = (i4 ++ dv) := ⟨_, rfl⟩
           replace H : ((some (([(⟨((rd_T76 l0 ag).f0), ((rd_T76 l0 ag).f1), ((rd_T76 l0 ag).f2)⟩ : S76)] : List (S76)) : List (S76))).bind fun dh => (if fR.length + dh.length < 5864062014805 then ((some (fR ++ dh : List (S76))).bind fun eA => ((some (aw.drop (ai : Int).toNat : List (S76))).bind fun cf => (if eA.length + cf.length < 5864062014805 then (spec_shSorted.l0 k2 (eA ++ cf) l0 (l0.length : Int) (wrap64 (ag + 1))) else (none)))) else (none))) = some (r1, r2) := by first | (rw [oM]; with_reducible exact H) | (have H2_ := (Option.bind_some _ _).symm.trans H; rw [oM]; with_reducible exact H2_) | (have H2_ := (Option.bind_some _ _).symm.trans H; with_reducible exact H2_) | with_reducible exact H | (rw [oM]; exact H) | exact H
           have uD := Aside0.mk oM
           clear oM
           obtain ⟨dh, oN⟩ : ∃ y_ : List (S76), y_ = (([(⟨((rd_T76 l0 ag).f0), ((rd_T76 l0 ag).f1), ((rd_T76 l0 ag).f2)⟩ : S76)] : List (S76))) := ⟨_, rfl⟩
           replace H : (if fR.length + dh.length < 5864062014805 then ((some (fR ++ dh : List (S76))).bind fun eA => ((some (aw.drop (ai : Int).toNat : List (S76))).bind fun cf => (if eA.length + cf.length < 5864062014805 then (spec_shSorted.l0 k2 (eA ++ cf) l0 (l0.length : Int) (wrap64 (ag + 1))) else (none)))) else (none)) = some (r1, r2) := by first | (rw [oN]; with_reducible exact H) | (have H2_ := (Option.bind_some _ _).symm.trans H; rw [oN]; with_reducible exact H2_) | (have H2_ := (Option.bind_some _ _).symm.trans H; with_reducible exact H2_) | with_reducible exact H | (rw [oN]; exact H) | exact H
           have l5 := Aside0.mk oN
           clear oN
           by_cases c40 : fR.length + dh.length < 5864062014805
           ·rw [if_pos c40] at H
            have LMc40 := Aside0.mk c40
            clear c40
            obtain ⟨eA, oO⟩ : ∃ y_ : List (S76), y_ = (fR ++ dh) := ⟨_, rfl⟩
            replace H : ((some (aw.drop (ai : Int).toNat : List (S76))).bind fun cf => (if eA.length + cf.length < 5864062014805 then (spec_shSorted.l0 k2 (eA ++ cf) l0 (l0.length : Int) (wrap64 (ag + 1))) else (none))) = some (r1, r2) := by first | (rw [oO]; with_reducible exact H) | (have H2_ := (Option.bind_some _ _).symm.trans H; rw [oO]; with_reducible exact H2_) | (have H2_ := (Option.bind_some _ _).symm.trans H; with_reducible exact H2_) | with_reducible exact H | (rw [oO]; exact H) | exact H
            have Ny185 := Aside0.mk oO
            clear oO
            have c41b0 := eq_true (of_decide_eq_true (Z4) : 0 ≤ ai)
            have xP := eq_true (of_decide_eq_true (Z4) : ai ≤ (aw.length : Int))
            obtain ⟨cf, oP⟩ : ∃ y_ : List (S76), y_ = (aw.drop (ai : Int).toNat) := ⟨_, rfl⟩
            replace H : (if eA.length + cf.length < 5864062014805 then (spec_shSorted.l0 k2 (eA ++ cf) l0 (l0.length : Int) (wrap64 (ag + 1))) else (none)) = some (r1, r2) := by first | (rw [oP]; with_reducible exact H) | (have H2_ := (Option.bind_some _ _).symm.trans H; rw [oP]; with_reducible exact H2_) | (have H2_ := (Option.bind_some _ _).symm.trans H; with_reducible exact H2_) | with_reducible exact H | (rw [oP]; exact H) | exact H
            have iU := Aside0.mk oP
            clear oP
            by_cases c43 : eA.length + cf.length < 5864062014805
            ·rw [if_pos c43] at H
             have uE := Aside0.mk c43
             clear c43
             obtain ⟨B0, oQ⟩ : ∃ y_ : List (S76), y_ = (eA ++ cf) := ⟨_, rfl⟩
             replace H : (spec_shSorted.l0 k2 B0 l0 (l0.length : Int) (wrap64 (ag + 1))) = some (r1, r2) := by first | (rw [oQ]; with_reducible exact H) | (have H2_ := (Option.bind_some _ _).symm.trans H; rw [oQ]; with_reducible exact H2_) | (have H2_ := (Option.bind_some _ _).symm.trans H; with_reducible exact H2_) | with_reducible exact H | (rw [oQ]; exact H) | exact H
             have Ny192 := Aside0.mk oQ
             clear oQ
             have H' := Aside0.mk H
             clear H
             try go_wp2
             refine k3_ (Kd.R_drew aj.out) (blk_drew al.out) (below_drew1 HB.out) ?_
             clear aj al HB
             intro aj al HB
             refine start_ (n := 11) (S := fun w' => True) (ds := []) (M_ 0 11) (by kernel_rfl) rfl rfl trivial (fun hHeld => ?_); refine with_tabW spec_shSorted.tab6 spec_shSorted.bits6 (fun HT_ HW_ => ?_)
             generalize wr.drew = Bu at aj al HB hHeld ⊢
             refine pu_ 0 16 (M_ 1 10) ?_
             refine pu_ 1 17 (M_ 2 9) ?_
             refine pu_ 2 18 (M_ 3 8) ?_
             refine pn_ 3 19 (M_ 4 7) ?_
             refine pn_ 4 20 (M_ 5 6) ?_
             refine pn_ 5 21 (M_ 6 5) ?_
             refine pn_ 6 22 (M_ 7 4) ?_
             refine pn_ 7 23 (M_ 8 3) ?_
             refine pn_ 8 24 (M_ 9 2) ?_
             refine pn_ 9 25 (M_ 10 1) ?_
             refine pu_ 10 26 (M_ 11 0) ?_
             refine done_ (done_of HT_.out (by kernel_rfl)) ?_
             try go_wp2
             refine k3_ (Kd.R_drew aj.out) (blk_drew al.out) (below_drew1 HB.out) ?_
             clear aj al HB
             intro aj al HB
             have DM : (ai : Int) ≤ ((aw.length : Int) : Int) := of_decide_eq_true (Z4)
             obtain ⟨i046, hi046, _, hsz46, _⟩ := info_parts info76
             have hroom46 : aw.length ≤ dc := (Kd.R_reads' aj.out).2.1
             have hC46 : Kd.C k76 _ gT aw.length aw := (Kd.R_reads' aj.out).2.2
             have hcut46 := cut_to (P := Tryz.prog) 58 76 .i64 Tryz.underlying58 hi046 gT aw.length dc ai (of_decide_eq_true (Z4)) DM hroom46
             have hr46 := Kd.C_take (m := (ai : Int).toNat) hC46 (by omega)
             have zB : dv.length = (ai : Int).toNat := (by rw [iT.out, List.length_take]; omega)
             rw [← iT.out] at hr46
             rw [← zB] at hcut46
             have HR178 := Aside0.mk hr46
             have HC178 := Aside0.mk (show dv.length ≤ dc from by omega)
             clear hr46 hC46 hroom46 hi046 hsz46
             have KY46 := Aside0.mk zB
             clear zB
             have KL46 := Aside0.mk (show (ai : Int).toNat ≤ aw.length from by omega)
             replace DM := eq_true DM
             have DN : (ai : Int) ≤ ((aw.length : Int) : Int) := of_decide_eq_true (Z4)
             obtain ⟨i047, hi047, _, hsz47, _⟩ := info_parts info76
             have hroom47 : aw.length ≤ dc := (Kd.R_reads' aj.out).2.1
             have hC47 : Kd.C k76 _ gT aw.length aw := (Kd.R_reads' aj.out).2.2
             have q047 : (0 : Int) ≤ (ai : Int) := of_decide_eq_true (Z4)
             have hcut47 := cut_from (P := Tryz.prog) 58 76 .i64 Tryz.underlying58 hi047 3 hsz47 gT aw.length dc ai q047 DN
             have hr47 := Kd.C_drop (m := (ai : Int).toNat) (c := dc) hC47 (by omega) hroom47
             obtain ⟨zC, hA47⟩ : ∃ A1, A1 = (if dc = (ai : Int).toNat then gT else (gT : Option Addr).map (·.add ((ai : Int).toNat * 3))) := ⟨_, rfl⟩
             obtain ⟨c47, hc47⟩ : ∃ c1, c1 = dc - (ai : Int).toNat := ⟨_, rfl⟩
             have wa : cf.length = aw.length - (ai : Int).toNat := (by rw [iU.out, List.length_drop] <;> omega)
             rw [show (aw).drop (ai : Int).toNat = cf from iU.out.symm] at hr47
             replace hr47 : Kd.C k76 _ zC cf.length cf := (by rw [hA47]; exact hr47)
             rw [← wa, ← hA47, ← hc47] at hcut47
             have HR191 := Aside0.mk hr47
             have HC191 := Aside0.mk (show cf.length ≤ c47 from by rw [wa, hc47]; exact Nat.sub_le_sub_right hroom47 _)
             clear hr47 hC47 hroom47 hi047 hsz47 hc47
             have KY47 := Aside0.mk wa
             have r8 := Aside0.mk hA47
             clear wa hA47
             have KL47 := Aside0.mk (show (ai : Int).toNat ≤ aw.length from by omega)
             replace DN := eq_true DN
             refine start_ (n := 13) (S := fun w' => w'.cell? ⟨av, 0, none⟩ = some (.int .i64 ((rd_T76 l0 ag).f0)) ∧ w'.cell? ⟨av, 1, none⟩ = some (.int .i64 ((rd_T76 l0 ag).f1)) ∧ w'.cell? ⟨av, 2, none⟩ = some (.int .i64 ((rd_T76 l0 ag).f2))) (ds := []) (M_ 0 13) (by kernel_rfl) rfl rfl ⟨(blk_cell al.out 0).trans rfl, (blk_cell al.out 1).trans rfl, (blk_cell al.out 2).trans rfl⟩ (fun hHeld => ?_); refine with_tabW spec_shSorted.tab8 spec_shSorted.bits8 (fun HT_ HW_ => ?_)
             generalize Bu.drew = Dh at aj al HB HR178 HR191 hHeld ⊢
             refine pu_ 1 30 (N_ 13 2) ?_
             refine pu_ 2 31 (N_ 13 6) ?_
             refine pu_ 3 32 (N_ 13 14) ?_
             refine pu_ 8 37 (N_ 13 270) ?_
             refine pu_ 9 38 (N_ 13 782) ?_
             refine pu_ 10 39 (N_ 13 1806) ?_
             refine tk3_ 5 34 (N_ 13 1838) hHeld ?_
             refine join_ (σ := Value × Value × Value) 3 (N_ 13 1919) (fun s_ => [(29, s_.1), (33, s_.2.1), (35, s_.2.2)]) (fun s_ w' => (w'.cell? ⟨av, 0, none⟩ = some (.int .i64 ((rd_T76 l0 ag).f0)) ∧ w'.cell? ⟨av, 1, none⟩ = some (.int .i64 ((rd_T76 l0 ag).f1)) ∧ w'.cell? ⟨av, 2, none⟩ = some (.int .i64 ((rd_T76 l0 ag).f2))) ∧ (Kd.R k76 76 w' w.heap.size (fun k_ => some k_ ≠ (s_.2.2 : Value).ownBlock ∧ some k_ ≠ (.slice gT aw.length dc : Value).ownBlock ∧ k_ ≠ av) s_.2.1 fR) ∧ (Kd.R k76 76 w' w.heap.size (fun k_ => some k_ ≠ (s_.2.1 : Value).ownBlock ∧ some k_ ≠ (.slice gT aw.length dc : Value).ownBlock ∧ k_ ≠ av) s_.2.2 dh) ∧ (Kd.R k76 76 w' w.heap.size (fun k_ => some k_ ≠ (s_.2.1 : Value).ownBlock ∧ some k_ ≠ (s_.2.2 : Value).ownBlock ∧ k_ ≠ av) (.slice gT aw.length dc) aw) ∧ (w'.heap[av]? = some (.cells #[.int .i64 ((rd_T76 l0 ag).f0), .int .i64 ((rd_T76 l0 ag).f1), .int .i64 ((rd_T76 l0 ag).f2)] 76 (0, 0))) ∧ (Below w.heap.size w w')) ?_ ?_
             rotate_left
             ·intro hCont
              refine two_ (i := 0) (j := 6) (Ni := some 29) (Nj := some 35) (N_ 13 1839) (N_ 13 1902) rfl rfl rfl rfl (two_of HT_.out (by kernel_rfl)) (by decide) (by decide) (fun K hK => ?_) (fun K hK => ?_)
              ·skip
               refine Kd.R_lit_step k76 _ 76 ?hg (N := 29) ?hd (xs := ([] : List (S76))) (inner := []) (ok := fun _ => True) (okp := fun _ => True) ?hr ?hp (fun _ hk => hk) trivial (Below.refl _ _) (Nat.le_refl _) (by simp) ?_; (case hd => rfl); (case hg => rfl); (case hr => exact Z29); (case hp => exact (Reps.none _ _))
               intro oR er ho49 hb hg_ hnew_
               clear hg_ hnew_
               (first | rw [← rt.out] at ho49 | (simp only [Int.reduceToNat] at ho49; rw [← rt.out] at ho49))
               have n0_ := Aside0.mk (Kd.R_elder' (Z1 aj) (Kd.R_base ho49) hb)
               have n1_ := Aside0.mk (Kd.R_lower (Kd.R_newB (Kd.R_new' ho49 (Yd_ aj)) (g := av) (o := .cells #[.int .i64 ((rd_T76 l0 ag).f0), .int .i64 ((rd_T76 l0 ag).f1), .int .i64 ((rd_T76 l0 ag).f2)] 76 (0, 0)) (Z6 al)) (below_size (Z13)))
               have n2_ := Aside0.mk (Ye_ al)
               have n3_ := Aside0.mk (Kd.C_below (Z11 HR178) hb)
               have n4_ := Aside0.mk (Kd.C_below (Z11 HR191) hb)
               have n5_ := Aside0.mk (below_step (Z13) hb)
               clear aj
               clear al
               clear HR178
               clear HR191
               clear HB
               have aj := n0_
               have eR := n1_
               have al := n2_
               have HR178 := n3_
               have HR191 := n4_
               have HB := n5_
               clear n0_ n1_ n2_ n3_ n4_ n5_
               clear hb ho49
               refine hK.out _ _ ⟨(blk_cell al.out 0).trans rfl, (blk_cell al.out 1).trans rfl, (blk_cell al.out 2).trans rfl⟩ (fun hHeld => ?_)
               clear hK K
               refine norm_ (a' := ?_) ?_ ?_
               rotate_left
               ·show Act.put _ (some 29) _ = _
                simp only [Act.put, List.setIfInBounds_toArray, List.set_cons_zero, List.set_cons_succ, i64_w, i32_w]
                rfl
               refine two_ (i := 4) (j := 6) (Ni := some 33) (Nj := some 35) (N_ 13 1855) (N_ 13 1903) rfl rfl rfl rfl (two_of HT_.out (by kernel_rfl)) (by decide) (by decide) (fun K hK => ?_) (fun K hK => ?_)
               ·skip
                refine Kd.R_append_rows_step k76 (w0 := w) w.heap.size (by rfl) (.tmp 29) (.tmp 32) 58 76 (.agg #[(.int .i64 0), (.int .i64 0), (.int .i64 0)]) 24 rfl Tryz.underlying58 info76 rfl (by decide) (by omega) oR i4 dv _ _ _ (fun k_ => some k_ ≠ (.slice gT aw.length dc : Value).ownBlock ∧ k_ ≠ av) (fun _ => False) rfl rfl ?aO ?aR (fun _ _ h => h) (fun _ h => h.elim) ?aF ?aB ?aS ?aL ?_
                (case aR => exact Z117)
                (case aB => exact Z13)
                (case aF => exact (fun k_ hk => ⟨Kd.fresh' (Yd_ aj) k_ hk, Kd.freshB (g := av) (o := .cells #[.int .i64 ((rd_T76 l0 ag).f0), .int .i64 ((rd_T76 l0 ag).f1), .int .i64 ((rd_T76 l0 ag).f2)] 76 (0, 0)) (Z6 al) k_ hk⟩))
                (case aO => exact (Z77 eR))
                (case aS => exact (below_size (Z13)))
                (case aL => exact Z76 uC)
                intro lI jI ho hb hg hat
                rw [← uD.out] at ho
                have n0_ := Aside0.mk (Kd.R_after (ok := (fun k_ => k_ ≠ av)) (Z1 aj) hg hat)
                have n1_ := Aside0.mk (blk_grown (g := av) (o := .cells #[.int .i64 ((rd_T76 l0 ag).f0), .int .i64 ((rd_T76 l0 ag).f1), .int .i64 ((rd_T76 l0 ag).f2)] 76 (0, 0)) (Z6 al) hg (Kd.R_away eR.out (fun _ hk => hk.2)))
                have n2_ := Aside0.mk (hb)
                have n3_ := Aside0.mk ((show Kd.C k76 jI gT dv.length dv from by rw [iT.out]; exact Kd.C_take (m := (ai : Int).toNat) ((Kd.R_reads' (Kd.R_after (ok := (fun k_ => k_ ≠ av)) (Z1 aj) hg hat)).2.2) KL46.out))
                have n4_ := Aside0.mk ((show Kd.C k76 jI zC cf.length cf from by rw [iU.out, r8.out]; exact Kd.C_drop (m := (ai : Int).toNat) (c := dc) ((Kd.R_reads' (Kd.R_after (ok := (fun k_ => k_ ≠ av)) (Z1 aj) hg hat)).2.2) KL47.out ((Kd.R_reads' (Kd.R_after (ok := (fun k_ => k_ ≠ av)) (Z1 aj) hg hat)).2.1)))
                have n5_ := Aside0.mk (ho)
                clear aj
                clear al
                clear HB
                clear HR178
                clear HR191
                clear eR
                have aj := n0_
                have al := n1_
                have HB := n2_
                have HR178 := n3_
                have HR191 := n4_
                have ff := n5_
                clear n0_ n1_ n2_ n3_ n4_ n5_
                clear ho hb hg hat
                refine hK.out _ _ ⟨(blk_cell al.out 0).trans rfl, (blk_cell al.out 1).trans rfl, (blk_cell al.out 2).trans rfl⟩ (fun hHeld => ?_)
                clear hK K
                refine norm_ (a' := ?_) ?_ ?_
                rotate_left
                ·show Act.put _ (some 33) _ = _
                 simp only [Act.put, List.setIfInBounds_toArray, List.set_cons_zero, List.set_cons_succ, i64_w, i32_w]
                 rfl
                refine one_ (i := 6) (N := some 35) (N_ 13 1919) rfl rfl (one_of HT_.out (by kernel_rfl)) (by decide) (fun K hK => ?_)
                refine Kd.R_lit_step k76 _ 76 ?hg (N := 35) ?hd (xs := ([(⟨((rd_T76 l0 ag).f0), ((rd_T76 l0 ag).f1), ((rd_T76 l0 ag).f2)⟩ : S76)] : List (S76))) (inner := [.int .i64 ((rd_T76 l0 ag).f0), .int .i64 ((rd_T76 l0 ag).f1), .int .i64 ((rd_T76 l0 ag).f2)]) (ok := fun _ => True) (okp := fun _ => True) ?hr ?hp (fun _ hk => hk) trivial (Below.refl _ _) (Nat.le_refl _) (by simp) ?_; (case hd => rfl); (case hg => rfl); (case hr => exact Z29); (case hp => exact (Reps.c3 (show Kd.M k76 _ _ _ (⟨((rd_T76 l0 ag).f0), ((rd_T76 l0 ag).f1), ((rd_T76 l0 ag).f2)⟩ : S76) [.int .i64 ((rd_T76 l0 ag).f0), .int .i64 ((rd_T76 l0 ag).f1), .int .i64 ((rd_T76 l0 ag).f2)] from (k76_mkM _ _ _ (⟨((rd_T76 l0 ag).f0), ((rd_T76 l0 ag).f1), ((rd_T76 l0 ag).f2)⟩ : S76) )) (Reps.none _ _)))
                intro fF Bv ho52 hb hg_ hnew_
                clear hg_ hnew_
                (first | rw [← l5.out] at ho52 | (simp only [Int.reduceToNat] at ho52; rw [← l5.out] at ho52))
                have n0_ := Aside0.mk (Kd.R_elder' (Z1 aj) (Kd.R_base ho52) hb)
                have n1_ := Aside0.mk (Kd.R_elder' (Z1 ff) (Kd.R_base ho52) hb)
                have n2_ := Aside0.mk (Kd.R_lower (Kd.R_newB (Kd.R_new' (Kd.R_new' ho52 (Yd_ aj)) (Yd_ ff)) (g := av) (o := .cells #[.int .i64 ((rd_T76 l0 ag).f0), .int .i64 ((rd_T76 l0 ag).f1), .int .i64 ((rd_T76 l0 ag).f2)] 76 (0, 0)) (Z6 al)) (below_size (Z13)))
                have n3_ := Aside0.mk (Ye_ al)
                have n4_ := Aside0.mk (Kd.C_below (Z11 HR178) hb)
                have n5_ := Aside0.mk (Kd.C_below (Z11 HR191) hb)
                have n6_ := Aside0.mk (below_step (Z13) hb)
                clear aj
                clear ff
                clear al
                clear HR178
                clear HR191
                clear HB
                have aj := n0_
                have ff := n1_
                have b8 := n2_
                have al := n3_
                have HR178 := n4_
                have HR191 := n5_
                have HB := n6_
                clear n0_ n1_ n2_ n3_ n4_ n5_ n6_
                clear hb ho52
                refine hK.out _ _ ⟨(blk_cell al.out 0).trans rfl, (blk_cell al.out 1).trans rfl, (blk_cell al.out 2).trans rfl⟩ (fun hHeld => ?_)
                clear hK K
                refine norm_ (a' := ?_) ?_ ?_
                rotate_left
                ·show Act.put _ (some 35) _ = _
                 simp only [Act.put, List.setIfInBounds_toArray, List.set_cons_zero, List.set_cons_succ, i64_w, i32_w]
                 rfl
                exact norm_ (Z53) (hCont (oR, lI, fF) _ ⟨hHeld, (Z55 ff), (Z160 b8), (Z150), (Z6 al), (Z13)⟩)
               skip
               refine Kd.R_lit_step k76 _ 76 ?hg (N := 35) ?hd (xs := ([(⟨((rd_T76 l0 ag).f0), ((rd_T76 l0 ag).f1), ((rd_T76 l0 ag).f2)⟩ : S76)] : List (S76))) (inner := [.int .i64 ((rd_T76 l0 ag).f0), .int .i64 ((rd_T76 l0 ag).f1), .int .i64 ((rd_T76 l0 ag).f2)]) (ok := fun _ => True) (okp := fun _ => True) ?hr ?hp (fun _ hk => hk) trivial (Below.refl _ _) (Nat.le_refl _) (by simp) ?_; (case hd => rfl); (case hg => rfl); (case hr => exact Z29); (case hp => exact (Reps.c3 (show Kd.M k76 _ _ _ (⟨((rd_T76 l0 ag).f0), ((rd_T76 l0 ag).f1), ((rd_T76 l0 ag).f2)⟩ : S76) [.int .i64 ((rd_T76 l0 ag).f0), .int .i64 ((rd_T76 l0 ag).f1), .int .i64 ((rd_T76 l0 ag).f2)] from (k76_mkM _ _ _ (⟨((rd_T76 l0 ag).f0), ((rd_T76 l0 ag).f1), ((rd_T76 l0 ag).f2)⟩ : S76) )) (Reps.none _ _)))
               intro fF jI ho51 hb hg_ hnew_
               clear hg_ hnew_
               (first | rw [← l5.out] at ho51 | (simp only [Int.reduceToNat] at ho51; rw [← l5.out] at ho51))
               have n0_ := Aside0.mk (Kd.R_elder' (Z1 aj) (Kd.R_base ho51) hb)
               have n1_ := Aside0.mk (Kd.R_elder' (Z1 eR) (Kd.R_base ho51) hb)
               have n2_ := Aside0.mk (Kd.R_lower (Kd.R_newB (Kd.R_new' (Kd.R_new' ho51 (Yd_ aj)) (Yd_ eR)) (g := av) (o := .cells #[.int .i64 ((rd_T76 l0 ag).f0), .int .i64 ((rd_T76 l0 ag).f1), .int .i64 ((rd_T76 l0 ag).f2)] 76 (0, 0)) (Z6 al)) (below_size (Z13)))
               have n3_ := Aside0.mk (Ye_ al)
               have n4_ := Aside0.mk (Kd.C_below (Z11 HR178) hb)
               have n5_ := Aside0.mk (Kd.C_below (Z11 HR191) hb)
               have n6_ := Aside0.mk (below_step (Z13) hb)
               clear aj
               clear eR
               clear al
               clear HR178
               clear HR191
               clear HB
               have aj := n0_
               have eR := n1_
               have b8 := n2_
               have al := n3_
               have HR178 := n4_
               have HR191 := n5_
               have HB := n6_
               clear n0_ n1_ n2_ n3_ n4_ n5_ n6_
               clear hb ho51
               refine hK.out _ _ ⟨(blk_cell al.out 0).trans rfl, (blk_cell al.out 1).trans rfl, (blk_cell al.out 2).trans rfl⟩ (fun hHeld => ?_)
               clear hK K
               refine norm_ (a' := ?_) ?_ ?_
               rotate_left
               ·show Act.put _ (some 35) _ = _
                simp only [Act.put, List.setIfInBounds_toArray, List.set_cons_zero, List.set_cons_succ, i64_w, i32_w]
                rfl
               refine one_ (i := 4) (N := some 33) (N_ 13 1919) rfl rfl (one_of HT_.out (by kernel_rfl)) (by decide) (fun K hK => ?_)
               refine Kd.R_append_rows_step k76 (w0 := w) w.heap.size (by rfl) (.tmp 29) (.tmp 32) 58 76 (.agg #[(.int .i64 0), (.int .i64 0), (.int .i64 0)]) 24 rfl Tryz.underlying58 info76 rfl (by decide) (by omega) oR i4 dv _ _ _ (fun k_ => some k_ ≠ (.slice gT aw.length dc : Value).ownBlock ∧ some k_ ≠ (fF : Value).ownBlock ∧ k_ ≠ av) (fun _ => False) rfl rfl ?aO ?aR (fun _ _ h => h) (fun _ h => h.elim) ?aF ?aB ?aS ?aL ?_
               (case aR => exact Z117)
               (case aB => exact Z13)
               (case aF => exact (fun k_ hk => ⟨Kd.fresh' (Yd_ aj) k_ hk, Kd.fresh' (Yd_ b8) k_ hk, Kd.freshB (g := av) (o := .cells #[.int .i64 ((rd_T76 l0 ag).f0), .int .i64 ((rd_T76 l0 ag).f1), .int .i64 ((rd_T76 l0 ag).f2)] 76 (0, 0)) (Z6 al) k_ hk⟩))
               (case aO => exact (Z161 eR))
               (case aS => exact (below_size (Z13)))
               (case aL => exact Z76 uC)
               intro lI rT ho hb hg hat
               rw [← uD.out] at ho
               have n0_ := Aside0.mk (Kd.R_after (ok := (fun k_ => some k_ ≠ (fF : Value).ownBlock ∧ k_ ≠ av)) (Z61) hg hat)
               have n1_ := Aside0.mk (blk_grown (g := av) (o := .cells #[.int .i64 ((rd_T76 l0 ag).f0), .int .i64 ((rd_T76 l0 ag).f1), .int .i64 ((rd_T76 l0 ag).f2)] 76 (0, 0)) (Z6 al) hg (Kd.R_away eR.out (fun _ hk => hk.1.2)))
               have n2_ := Aside0.mk (Kd.R_after (ok := (fun k_ => some k_ ≠ (.slice gT aw.length dc : Value).ownBlock ∧ k_ ≠ av)) (Z162 b8) hg hat)
               have n3_ := Aside0.mk (hb)
               have n4_ := Aside0.mk ((show Kd.C k76 rT gT dv.length dv from by rw [iT.out]; exact Kd.C_take (m := (ai : Int).toNat) ((Kd.R_reads' (Kd.R_after (ok := (fun k_ => some k_ ≠ (fF : Value).ownBlock ∧ k_ ≠ av)) (Z61) hg hat)).2.2) KL46.out))
               have n5_ := Aside0.mk ((show Kd.C k76 rT zC cf.length cf from by rw [iU.out, r8.out]; exact Kd.C_drop (m := (ai : Int).toNat) (c := dc) ((Kd.R_reads' (Kd.R_after (ok := (fun k_ => some k_ ≠ (fF : Value).ownBlock ∧ k_ ≠ av)) (Z61) hg hat)).2.2) KL47.out ((Kd.R_reads' (Kd.R_after (ok := (fun k_ => some k_ ≠ (fF : Value).ownBlock ∧ k_ ≠ av)) (Z61) hg hat)).2.1)))
               have n6_ := Aside0.mk (ho)
               clear aj
               clear al
               clear b8
               clear HB
               clear HR178
               clear HR191
               clear eR
               have aj := n0_
               have al := n1_
               have b8 := n2_
               have HB := n3_
               have HR178 := n4_
               have HR191 := n5_
               have ff := n6_
               clear n0_ n1_ n2_ n3_ n4_ n5_ n6_
               clear ho hb hg hat
               refine hK.out _ _ ⟨(blk_cell al.out 0).trans rfl, (blk_cell al.out 1).trans rfl, (blk_cell al.out 2).trans rfl⟩ (fun hHeld => ?_)
               clear hK K
               refine norm_ (a' := ?_) ?_ ?_
               rotate_left
               ·show Act.put _ (some 33) _ = _
                simp only [Act.put, List.setIfInBounds_toArray, List.set_cons_zero, List.set_cons_succ, i64_w, i32_w]
                rfl
               exact norm_ (Z53) (hCont (oR, lI, fF) _ ⟨hHeld, (Z67 ff), (Z55 b8), (Z55 aj), (Z6 al), (Z13)⟩)
              skip
              refine Kd.R_lit_step k76 _ 76 ?hg (N := 35) ?hd (xs := ([(⟨((rd_T76 l0 ag).f0), ((rd_T76 l0 ag).f1), ((rd_T76 l0 ag).f2)⟩ : S76)] : List (S76))) (inner := [.int .i64 ((rd_T76 l0 ag).f0), .int .i64 ((rd_T76 l0 ag).f1), .int .i64 ((rd_T76 l0 ag).f2)]) (ok := fun _ => True) (okp := fun _ => True) ?hr ?hp (fun _ hk => hk) trivial (Below.refl _ _) (Nat.le_refl _) (by simp) ?_; (case hd => rfl); (case hg => rfl); (case hr => exact Z29); (case hp => exact (Reps.c3 (show Kd.M k76 _ _ _ (⟨((rd_T76 l0 ag).f0), ((rd_T76 l0 ag).f1), ((rd_T76 l0 ag).f2)⟩ : S76) [.int .i64 ((rd_T76 l0 ag).f0), .int .i64 ((rd_T76 l0 ag).f1), .int .i64 ((rd_T76 l0 ag).f2)] from (k76_mkM _ _ _ (⟨((rd_T76 l0 ag).f0), ((rd_T76 l0 ag).f1), ((rd_T76 l0 ag).f2)⟩ : S76) )) (Reps.none _ _)))
              intro fF er ho49 hb hg_ hnew_
              clear hg_ hnew_
              (first | rw [← l5.out] at ho49 | (simp only [Int.reduceToNat] at ho49; rw [← l5.out] at ho49))
              have n0_ := Aside0.mk (Kd.R_elder' (Z1 aj) (Kd.R_base ho49) hb)
              have n1_ := Aside0.mk (Kd.R_lower (Kd.R_newB (Kd.R_new' ho49 (Yd_ aj)) (g := av) (o := .cells #[.int .i64 ((rd_T76 l0 ag).f0), .int .i64 ((rd_T76 l0 ag).f1), .int .i64 ((rd_T76 l0 ag).f2)] 76 (0, 0)) (Z6 al)) (below_size (Z13)))
              have n2_ := Aside0.mk (Ye_ al)
              have n3_ := Aside0.mk (Kd.C_below (Z11 HR178) hb)
              have n4_ := Aside0.mk (Kd.C_below (Z11 HR191) hb)
              have n5_ := Aside0.mk (below_step (Z13) hb)
              clear aj
              clear al
              clear HR178
              clear HR191
              clear HB
              have aj := n0_
              have b8 := n1_
              have al := n2_
              have HR178 := n3_
              have HR191 := n4_
              have HB := n5_
              clear n0_ n1_ n2_ n3_ n4_ n5_
              clear hb ho49
              refine hK.out _ _ ⟨(blk_cell al.out 0).trans rfl, (blk_cell al.out 1).trans rfl, (blk_cell al.out 2).trans rfl⟩ (fun hHeld => ?_)
              clear hK K
              refine norm_ (a' := ?_) ?_ ?_
              rotate_left
              ·show Act.put _ (some 35) _ = _
               simp only [Act.put, List.setIfInBounds_toArray, List.set_cons_zero, List.set_cons_succ, i64_w, i32_w]
               rfl
              refine one_ (i := 0) (N := some 29) (N_ 13 1903) rfl rfl (one_of HT_.out (by kernel_rfl)) (by decide) (fun K hK => ?_)
              refine Kd.R_lit_step k76 _ 76 ?hg (N := 29) ?hd (xs := ([] : List (S76))) (inner := []) (ok := fun _ => True) (okp := fun _ => True) ?hr ?hp (fun _ hk => hk) trivial (Below.refl _ _) (Nat.le_refl _) (by simp) ?_; (case hd => rfl); (case hg => rfl); (case hr => exact Z29); (case hp => exact (Reps.none _ _))
              intro oR jI ho51 hb hg_ hnew_
              clear hg_ hnew_
              (first | rw [← rt.out] at ho51 | (simp only [Int.reduceToNat] at ho51; rw [← rt.out] at ho51))
              have n0_ := Aside0.mk (Kd.R_elder' (Z1 aj) (Kd.R_base ho51) hb)
              have n1_ := Aside0.mk (Kd.R_elder' (Z1 b8) (Kd.R_base ho51) hb)
              have n2_ := Aside0.mk (Kd.R_lower (Kd.R_newB (Kd.R_new' (Kd.R_new' ho51 (Yd_ aj)) (Yd_ b8)) (g := av) (o := .cells #[.int .i64 ((rd_T76 l0 ag).f0), .int .i64 ((rd_T76 l0 ag).f1), .int .i64 ((rd_T76 l0 ag).f2)] 76 (0, 0)) (Z6 al)) (below_size (Z13)))
              have n3_ := Aside0.mk (Ye_ al)
              have n4_ := Aside0.mk (Kd.C_below (Z11 HR178) hb)
              have n5_ := Aside0.mk (Kd.C_below (Z11 HR191) hb)
              have n6_ := Aside0.mk (below_step (Z13) hb)
              clear aj
              clear b8
              clear al
              clear HR178
              clear HR191
              clear HB
              have aj := n0_
              have b8 := n1_
              have eR := n2_
              have al := n3_
              have HR178 := n4_
              have HR191 := n5_
              have HB := n6_
              clear n0_ n1_ n2_ n3_ n4_ n5_ n6_
              clear hb ho51
              refine hK.out _ _ ⟨(blk_cell al.out 0).trans rfl, (blk_cell al.out 1).trans rfl, (blk_cell al.out 2).trans rfl⟩ (fun hHeld => ?_)
              clear hK K
              refine norm_ (a' := ?_) ?_ ?_
              rotate_left
              ·show Act.put _ (some 29) _ = _
               simp only [Act.put, List.setIfInBounds_toArray, List.set_cons_zero, List.set_cons_succ, i64_w, i32_w]
               rfl
              refine one_ (i := 4) (N := some 33) (N_ 13 1919) rfl rfl (one_of HT_.out (by kernel_rfl)) (by decide) (fun K hK => ?_)
              refine Kd.R_append_rows_step k76 (w0 := w) w.heap.size (by rfl) (.tmp 29) (.tmp 32) 58 76 (.agg #[(.int .i64 0), (.int .i64 0), (.int .i64 0)]) 24 rfl Tryz.underlying58 info76 rfl (by decide) (by omega) oR i4 dv _ _ _ (fun k_ => some k_ ≠ (.slice gT aw.length dc : Value).ownBlock ∧ some k_ ≠ (fF : Value).ownBlock ∧ k_ ≠ av) (fun _ => False) rfl rfl ?aO ?aR (fun _ _ h => h) (fun _ h => h.elim) ?aF ?aB ?aS ?aL ?_
              (case aR => exact Z117)
              (case aB => exact Z13)
              (case aF => exact (fun k_ hk => ⟨Kd.fresh' (Yd_ aj) k_ hk, Kd.fresh' (Yd_ b8) k_ hk, Kd.freshB (g := av) (o := .cells #[.int .i64 ((rd_T76 l0 ag).f0), .int .i64 ((rd_T76 l0 ag).f1), .int .i64 ((rd_T76 l0 ag).f2)] 76 (0, 0)) (Z6 al) k_ hk⟩))
              (case aO => exact (Z91 eR))
              (case aS => exact (below_size (Z13)))
              (case aL => exact Z76 uC)
              intro lI rT ho hb hg hat
              rw [← uD.out] at ho
              have n0_ := Aside0.mk (Kd.R_after (ok := (fun k_ => some k_ ≠ (fF : Value).ownBlock ∧ k_ ≠ av)) (Z62) hg hat)
              have n1_ := Aside0.mk (blk_grown (g := av) (o := .cells #[.int .i64 ((rd_T76 l0 ag).f0), .int .i64 ((rd_T76 l0 ag).f1), .int .i64 ((rd_T76 l0 ag).f2)] 76 (0, 0)) (Z6 al) hg (Kd.R_away eR.out (fun _ hk => hk.2)))
              have n2_ := Aside0.mk (Kd.R_after (ok := (fun k_ => some k_ ≠ (.slice gT aw.length dc : Value).ownBlock ∧ k_ ≠ av)) (Z163 b8) hg hat)
              have n3_ := Aside0.mk (hb)
              have n4_ := Aside0.mk ((show Kd.C k76 rT gT dv.length dv from by rw [iT.out]; exact Kd.C_take (m := (ai : Int).toNat) ((Kd.R_reads' (Kd.R_after (ok := (fun k_ => some k_ ≠ (fF : Value).ownBlock ∧ k_ ≠ av)) (Z62) hg hat)).2.2) KL46.out))
              have n5_ := Aside0.mk ((show Kd.C k76 rT zC cf.length cf from by rw [iU.out, r8.out]; exact Kd.C_drop (m := (ai : Int).toNat) (c := dc) ((Kd.R_reads' (Kd.R_after (ok := (fun k_ => some k_ ≠ (fF : Value).ownBlock ∧ k_ ≠ av)) (Z62) hg hat)).2.2) KL47.out ((Kd.R_reads' (Kd.R_after (ok := (fun k_ => some k_ ≠ (fF : Value).ownBlock ∧ k_ ≠ av)) (Z62) hg hat)).2.1)))
              have n6_ := Aside0.mk (ho)
              clear aj
              clear al
              clear b8
              clear HB
              clear HR178
              clear HR191
              clear eR
              have aj := n0_
              have al := n1_
              have b8 := n2_
              have HB := n3_
              have HR178 := n4_
              have HR191 := n5_
              have ff := n6_
              clear n0_ n1_ n2_ n3_ n4_ n5_ n6_
              clear ho hb hg hat
              refine hK.out _ _ ⟨(blk_cell al.out 0).trans rfl, (blk_cell al.out 1).trans rfl, (blk_cell al.out 2).trans rfl⟩ (fun hHeld => ?_)
              clear hK K
              refine norm_ (a' := ?_) ?_ ?_
              rotate_left
              ·show Act.put _ (some 33) _ = _
               simp only [Act.put, List.setIfInBounds_toArray, List.set_cons_zero, List.set_cons_succ, i64_w, i32_w]
               rfl
              exact norm_ (Z53) (hCont (oR, lI, fF) _ ⟨hHeld, (Z67 ff), (Z55 b8), (Z55 aj), (Z6 al), (Z13)⟩)
             rintro ⟨oR, lI, fF⟩ pr ⟨hS_, h0_, h1_, h2_, h3_, h4_⟩
             have n0_ : Aside0 (Kd.R k76 76 pr w.heap.size (fun k_ => some k_ ≠ (fF : Value).ownBlock ∧ some k_ ≠ (.slice gT aw.length dc : Value).ownBlock ∧ k_ ≠ av) lI fR) := ⟨h0_⟩
             have n1_ : Aside0 (Kd.R k76 76 pr w.heap.size (fun k_ => some k_ ≠ (lI : Value).ownBlock ∧ some k_ ≠ (.slice gT aw.length dc : Value).ownBlock ∧ k_ ≠ av) fF dh) := ⟨h1_⟩
             have n2_ : Aside0 (Kd.R k76 76 pr w.heap.size (fun k_ => some k_ ≠ (lI : Value).ownBlock ∧ some k_ ≠ (fF : Value).ownBlock ∧ k_ ≠ av) (.slice gT aw.length dc) aw) := ⟨h2_⟩
             have n3_ : Aside0 (pr.heap[av]? = some (.cells #[.int .i64 ((rd_T76 l0 ag).f0), .int .i64 ((rd_T76 l0 ag).f1), .int .i64 ((rd_T76 l0 ag).f2)] 76 (0, 0))) := ⟨h3_⟩
             have n4_ : Aside0 (Below w.heap.size w pr) := ⟨h4_⟩
             clear aj
             clear al
             clear HB
             clear h0_ h1_ h2_ h3_ h4_
             have ff := n0_
             have b8 := n1_
             have aj := n2_
             have al := n3_
             have HB := n4_
             clear n0_ n1_ n2_ n3_ n4_
             have hHeld : pr.cell? ⟨av, 0, none⟩ = some (.int .i64 ((rd_T76 l0 ag).f0)) ∧ pr.cell? ⟨av, 1, none⟩ = some (.int .i64 ((rd_T76 l0 ag).f1)) ∧ pr.cell? ⟨av, 2, none⟩ = some (.int .i64 ((rd_T76 l0 ag).f2)) := hS_
             have n_ := Aside0.mk (show Kd.C k76 _ gT dv.length dv from by rw [iT.out]; exact Kd.C_take (m := (ai : Int).toNat) ((Kd.R_reads' aj.out).2.2) KL46.out)
             (try clear HR178)
             have HR178 := n_
             clear n_
             have n_ := Aside0.mk (show Kd.C k76 _ zC cf.length cf from by rw [iU.out, r8.out]; exact Kd.C_drop (m := (ai : Int).toNat) (c := dc) ((Kd.R_reads' aj.out).2.2) KL47.out ((Kd.R_reads' aj.out).2.1))
             (try clear HR191)
             have HR191 := n_
             clear n_
             obtain ⟨lJ, lK, B2⟩ := Kd.R_slice b8.out
             (first | subst B2 | (injection B2 with f1_ f2_ f3_; have f4_ := f1_.symm; have f5_ := f3_.symm; clear f1_ f2_ f3_; subst f4_; subst f5_))
             refine norm_ (a' := ?_) ?_ ?_
             rotate_left
             ·simp only [putAll, Act.put, List.setIfInBounds_toArray, List.set_cons_zero, List.set_cons_succ]
              rfl
             refine one_ (i := 7) (N := some 36) (M_ 11 2) rfl rfl (one_of HT_.out (by kernel_rfl)) (by decide) (fun K hK => ?_)
             refine Kd.R_append_rows_step k76 (w0 := w) w.heap.size (by rfl) (.tmp 33) (.tmp 35) 58 76 (.agg #[(.int .i64 0), (.int .i64 0), (.int .i64 0)]) 24 rfl Tryz.underlying58 info76 rfl (by decide) (by omega) lI fR dh _ _ _ (fun k_ => some k_ ≠ (.slice gT aw.length dc : Value).ownBlock ∧ some k_ ≠ (.slice lJ dh.length lK : Value).ownBlock ∧ k_ ≠ av) (fun _ => False) rfl rfl ?aO ?aR (fun _ _ h => h) (fun _ h => h.elim) ?aF ?aB ?aS ?aL ?_
             (case aR => exact Z5 b8)
             (case aB => exact Z13)
             (case aF => exact (fun k_ hk => ⟨Kd.fresh' (Yd_ aj) k_ hk, Kd.fresh' (Yd_ b8) k_ hk, Kd.freshB (g := av) (o := .cells #[.int .i64 ((rd_T76 l0 ag).f0), .int .i64 ((rd_T76 l0 ag).f1), .int .i64 ((rd_T76 l0 ag).f2)] 76 (0, 0)) (Z6 al) k_ hk⟩))
             (case aO => exact (Z67 ff))
             (case aS => exact (below_size (Z13)))
             (case aL => exact Z76 LMc40)
             intro v186 sx ho hb hg hat
             rw [← Ny185.out] at ho
             have n0_ := Aside0.mk (Kd.R_after (ok := (fun k_ => some k_ ≠ (.slice lJ dh.length lK : Value).ownBlock ∧ k_ ≠ av)) (Z56 aj) hg hat)
             have n1_ := Aside0.mk (blk_grown (g := av) (o := .cells #[.int .i64 ((rd_T76 l0 ag).f0), .int .i64 ((rd_T76 l0 ag).f1), .int .i64 ((rd_T76 l0 ag).f2)] 76 (0, 0)) (Z6 al) hg (Kd.R_away ff.out (fun _ hk => hk.2.2)))
             have n2_ := Aside0.mk (Kd.R_after (ok := (fun k_ => some k_ ≠ (.slice gT aw.length dc : Value).ownBlock ∧ k_ ≠ av)) (Z56 b8) hg hat)
             have n3_ := Aside0.mk (hb)
             have n4_ := Aside0.mk ((show Kd.C k76 sx gT dv.length dv from by rw [iT.out]; exact Kd.C_take (m := (ai : Int).toNat) ((Kd.R_reads' (Kd.R_after (ok := (fun k_ => some k_ ≠ (.slice lJ dh.length lK : Value).ownBlock ∧ k_ ≠ av)) (Z56 aj) hg hat)).2.2) KL46.out))
             have n5_ := Aside0.mk ((show Kd.C k76 sx zC cf.length cf from by rw [iU.out, r8.out]; exact Kd.C_drop (m := (ai : Int).toNat) (c := dc) ((Kd.R_reads' (Kd.R_after (ok := (fun k_ => some k_ ≠ (.slice lJ dh.length lK : Value).ownBlock ∧ k_ ≠ av)) (Z56 aj) hg hat)).2.2) KL47.out ((Kd.R_reads' (Kd.R_after (ok := (fun k_ => some k_ ≠ (.slice lJ dh.length lK : Value).ownBlock ∧ k_ ≠ av)) (Z56 aj) hg hat)).2.1)))
             have n6_ := Aside0.mk (ho)
             clear aj
             clear al
             clear b8
             clear HB
             clear HR178
             clear HR191
             clear ff
             have aj := n0_
             have al := n1_
             have b8 := n2_
             have HB := n3_
             have HR178 := n4_
             have HR191 := n5_
             have uF := n6_
             clear n0_ n1_ n2_ n3_ n4_ n5_ n6_
             clear ho hb hg hat
             refine hK.out _ _ ⟨(blk_cell al.out 0).trans rfl, (blk_cell al.out 1).trans rfl, (blk_cell al.out 2).trans rfl⟩ (fun hHeld => ?_)
             clear hK K
             refine norm_ (a' := ?_) ?_ ?_
             rotate_left
             ·show Act.put _ (some 36) _ = _
              simp only [Act.put, List.setIfInBounds_toArray, List.set_cons_zero, List.set_cons_succ, i64_w, i32_w]
              rfl
             refine one_ (i := 11) (N := some 40) (M_ 12 1) rfl rfl (one_of HT_.out (by kernel_rfl)) (by decide) (fun K hK => ?_)
             refine Kd.R_append_rows_step k76 (w0 := w) w.heap.size (by rfl) (.tmp 36) (.tmp 39) 58 76 (.agg #[(.int .i64 0), (.int .i64 0), (.int .i64 0)]) 24 rfl Tryz.underlying58 info76 rfl (by decide) (by omega) v186 eA cf _ _ _ (fun k_ => some k_ ≠ (.slice gT aw.length dc : Value).ownBlock ∧ some k_ ≠ (.slice lJ dh.length lK : Value).ownBlock ∧ k_ ≠ av) (fun _ => False) rfl rfl ?aO ?aR (fun _ _ h => h) (fun _ h => h.elim) ?aF ?aB ?aS ?aL ?_
             (case aR => repeat (first | exact (Z11 HR191) | (with_reducible refine Kd.C_alloc ?_ _) | (with_reducible refine Kd.C_drewN ?_ _) | (with_reducible refine Kd.C_drew ?_)))
             (case aB => exact Z13)
             (case aF => exact (fun k_ hk => ⟨Kd.fresh' (Yd_ aj) k_ hk, Kd.fresh' (Yd_ b8) k_ hk, Kd.freshB (g := av) (o := .cells #[.int .i64 ((rd_T76 l0 ag).f0), .int .i64 ((rd_T76 l0 ag).f1), .int .i64 ((rd_T76 l0 ag).f2)] 76 (0, 0)) (Z6 al) k_ hk⟩))
             (case aO => exact (Z1 uF))
             (case aS => exact (below_size (Z13)))
             (case aL => exact Z76 uE)
             intro v193 eY ho hb hg hat
             rw [← Ny192.out] at ho
             have n0_ := Aside0.mk (Kd.R_after (ok := (fun k_ => some k_ ≠ (.slice lJ dh.length lK : Value).ownBlock ∧ k_ ≠ av)) (Z1 aj) hg hat)
             have n1_ := Aside0.mk (blk_grown (g := av) (o := .cells #[.int .i64 ((rd_T76 l0 ag).f0), .int .i64 ((rd_T76 l0 ag).f1), .int .i64 ((rd_T76 l0 ag).f2)] 76 (0, 0)) (Z6 al) hg (Kd.R_away uF.out (fun _ hk => hk.2.2)))
             have n2_ := Aside0.mk (Kd.R_after (ok := (fun k_ => some k_ ≠ (.slice gT aw.length dc : Value).ownBlock ∧ k_ ≠ av)) (Z1 b8) hg hat)
             have n3_ := Aside0.mk (hb)
             have n4_ := Aside0.mk ((show Kd.C k76 eY gT dv.length dv from by rw [iT.out]; exact Kd.C_take (m := (ai : Int).toNat) ((Kd.R_reads' (Kd.R_after (ok := (fun k_ => some k_ ≠ (.slice lJ dh.length lK : Value).ownBlock ∧ k_ ≠ av)) (Z1 aj) hg hat)).2.2) KL46.out))
             have n5_ := Aside0.mk ((show Kd.C k76 eY zC cf.length cf from by rw [iU.out, r8.out]; exact Kd.C_drop (m := (ai : Int).toNat) (c := dc) ((Kd.R_reads' (Kd.R_after (ok := (fun k_ => some k_ ≠ (.slice lJ dh.length lK : Value).ownBlock ∧ k_ ≠ av)) (Z1 aj) hg hat)).2.2) KL47.out ((Kd.R_reads' (Kd.R_after (ok := (fun k_ => some k_ ≠ (.slice lJ dh.length lK : Value).ownBlock ∧ k_ ≠ av)) (Z1 aj) hg hat)).2.1)))
             have n6_ := Aside0.mk (ho)
             clear aj
             clear al
             clear b8
             clear HB
             clear HR178
             clear HR191
             clear uF
             have aj := n0_
             have al := n1_
             have b8 := n2_
             have HB := n3_
             have HR178 := n4_
             have HR191 := n5_
             have HO194 := n6_
             clear n0_ n1_ n2_ n3_ n4_ n5_ n6_
             clear ho hb hg hat
             refine hK.out _ _ ⟨(blk_cell al.out 0).trans rfl, (blk_cell al.out 1).trans rfl, (blk_cell al.out 2).trans rfl⟩ (fun hHeld => ?_)
             clear hK K
             refine norm_ (a' := ?_) ?_ ?_
             rotate_left
             ·show Act.put _ (some 40) _ = _
              simp only [Act.put, List.setIfInBounds_toArray, List.set_cons_zero, List.set_cons_succ, i64_w, i32_w]
              rfl
             refine pu_ 12 4 (M_ 13 0) ?_
             refine done_ (done_of HT_.out (by kernel_rfl)) ?_
             try go_wp2
             go_roundg k2
             case measure => have := HK1.out; have := HK2.out; omega
             case rel => exact ⟨(B0), (wrap64 (ag + 1)), (Z16), H', ⟨Z115 HK1⟩, ⟨Z35 HO194⟩, ⟨Z13⟩⟩
            rw [if_neg c43] at H
            exact absurd H (by simp)
           rw [if_neg c40] at H
           exact absurd H (by simp)
          rw [if_neg c39] at H
          exact absurd H (by simp)
         rw [if_neg c38] at H
         exact absurd H (by simp)
        rw [if_neg c37] at H
        exact absurd H (by simp)
     rw [if_neg c4] at H
     exact absurd H (by simp)
    rw [if_neg c3] at H
    exact absurd H (by simp)
   rw [if_neg c2] at H
   have fi : decide (ag < (l0.length : Int)) = false := decide_eq_false c2
   clear c2
   replace H := Option.bind_eq_some_iff.mp H
   obtain ⟨zz, uG, H⟩ := H
   (try dsimp only at H)
   have Di := Aside0.mk uG
   clear uG
   by_cases c58 : zz = true
   ·subst c58
    rw [if_pos rfl] at H
    simp only [Option.some.injEq, Prod.mk.injEq] at H
    obtain ⟨rfl, rfl⟩ := H
    obtain ⟨Ao59, co59, eo59⟩ := Kd.R_slice aj.out
    subst eo59
    go_wp2_with ((with_reducible refine gate_callee (f := 83) rfl ?_); refine gl_ 43 Tryz.func83 #[.slice Ao59 aw.length co59] ?_; (with_reducible refine (spec_shGood.calls k1 _ _ aw true _ ?_ ?_ Di.out).mono ?_); exact (Z5 aj); exact (Kd.R_reads' aj.out).2.1; rintro e pt ⟨rfl, hb⟩; refine ⟨_, rfl, ?_⟩; refine k2_ (Ya_ aj) (below_step (Z2) hb) ?_; clear aj HB; intro aj HB; (try clear hb))
    go_ret2
    exact ⟨_, Z12, Z1 aj, Z2⟩
   replace c58 := Bool.eq_false_iff.mpr c58
   subst c58
   rw [if_neg (show ¬ (false = true) by decide)] at H
   simp only [Option.some.injEq, Prod.mk.injEq] at H
   obtain ⟨rfl, rfl⟩ := H
   obtain ⟨vO, n2, ze⟩ := Kd.R_slice aj.out
   subst ze
   go_wp2_with ((with_reducible refine gate_callee (f := 83) rfl ?_); refine gl_ 43 Tryz.func83 #[.slice vO aw.length n2] ?_; (with_reducible refine (spec_shGood.calls k1 _ _ aw false _ ?_ ?_ Di.out).mono ?_); exact (Z5 aj); exact (Kd.R_reads' aj.out).2.1; rintro e DB ⟨rfl, hb⟩; refine ⟨_, rfl, ?_⟩; refine k2_ (Ya_ aj) (below_step (Z2) hb) ?_; clear aj HB; intro aj HB; (try clear hb))
   go_ret2
   exact ⟨_, Z12, Z37, Z2⟩

end Go.Proofs.YtmnnmddfmmaohaaGreat.PFnHead
