-- written by a program of this session: the kit's print, with outer functions of the session's own (wip/ext)
import Derived.Test.YtmnnmddfmmaohaaPFnStainsx0
import Derived.Test.YtmnnmddfmmaohaaPFnStainsx1
namespace Go.Proofs.Ytmnnmddfmmaohaa.PFnStains
open Go.RowKit Go.Proofs.YtmnnmddfmmaohaaW.PrintWords Go.Proofs.YtmnnmddfmmaohaaW.PrintLast Go.Proofs.YtmnnmddfmmaohaaW.PrintMore
attribute [local go_sem] max2_int min2_int max_two min_two max_three min_three max_four min_four   -- for this text's walks alone
set_option linter.unusedVariables false
set_option linter.unusedSimpArgs false
theorem mo13_ {p : Prop} (h : p := by repeat' first | (with_reducible first | apply ih0 | apply ih0 | apply ih1 | apply ih1 | exact LeO.refl _ | exact LeO.none _ | refine LeO.ite ?_ ?_ | refine LeO.bind ?_ (fun _ => ?_)) | exact LeO.none _ | refine LeO.ite ?_ ?_ | refine LeO.bind ?_ (fun _ => ?_)) : p := h

/-! ### spec_scFill: function 117 -/
mutual
def spec_scFill.l0 : Nat → ByteArray → List ByteArray → List ByteArray → Int → Int → Option (List ByteArray)
 | 0, _, _, _, _, _ => none
 | k + 1, x1, x5, x10, x11, x12 => if x12 < x11 then (if 0 ≤ x12 then (if x12 < (x10.length : Int) then (spec_scFill.l1 k x1 x5 (rdOf ByteArray.empty x10 x12) (⟨#[]⟩ : ByteArray) 0 x10 x11 x12) else (none)) else (none)) else (some x5)
def spec_scFill.l1 : Nat → ByteArray → List ByteArray → ByteArray → ByteArray → Int → List ByteArray → Int → Int → Option (List ByteArray)
 | 0, _, _, _, _, _, _, _, _ => none
 | k + 1, x1, x5, x7, x8, x9, x10, x11, x12 => if x9 < (x7.size : Int) then (if 0 ≤ x9 then (if (bt x7 x9) = 63 then (if x8.size + x1.size ≤ 9223372036854775807 then (spec_scFill.l1 k x1 x5 x7 (x8 ++ x1) (wrap64 (x9 + 1)) x10 x11 x12) else (none)) else (if x9 ≤ (wrap64 (x9 + 1)) then (if (wrap64 (x9 + 1)) ≤ (x7.size : Int) then (if x8.size + (x7.extract (x9 : Int).toNat ((wrap64 (x9 + 1)) : Int).toNat).size ≤ 9223372036854775807 then (spec_scFill.l1 k x1 x5 x7 (x8 ++ (x7.extract (x9 : Int).toNat ((wrap64 (x9 + 1)) : Int).toNat)) (wrap64 (x9 + 1)) x10 x11 x12) else (none)) else (none)) else (none))) else (none)) else (if x5.length < 8796093022208 then (spec_scFill.l0 k x1 (x5 ++ [x8]) x10 x11 (wrap64 (x12 + 1))) else (none))
end
def spec_scFill.f (k : Nat) (l0 : List ByteArray) (a1 : ByteArray) : Option (List ByteArray) := spec_scFill.l0 k a1 ([] : List ByteArray) l0 (l0.length : Int) 0
theorem spec_scFill.mono_l : ∀ k, (∀ y0 y1 y2 y3 y4, LeO (spec_scFill.l0 k y0 y1 y2 y3 y4) (spec_scFill.l0 (k + 1) y0 y1 y2 y3 y4)) ∧ (∀ y0 y1 y2 y3 y4 y5 y6 y7, LeO (spec_scFill.l1 k y0 y1 y2 y3 y4 y5 y6 y7) (spec_scFill.l1 (k + 1) y0 y1 y2 y3 y4 y5 y6 y7))
 | 0 => ⟨fun _ _ _ _ _ r h => by simp [spec_scFill.l0] at h, fun _ _ _ _ _ _ _ _ r h => by simp [spec_scFill.l1] at h⟩
 | k + 1 => by
  obtain ⟨ih0, ih1⟩ := spec_scFill.mono_l k
  refine ⟨?_, ?_⟩
  ·intro y0 y1 y2 y3 y4
   unfold spec_scFill.l0
   exact mo13_
  intro y0 y1 y2 y3 y4 y5 y6 y7
  unfold spec_scFill.l1
  exact mo13_
theorem spec_scFill.mono : ∀ a0 a1 k, LeO (spec_scFill.f k a0 a1) (spec_scFill.f (k + 1) a0 a1) := by
 intro a0 a1 k
 obtain ⟨ih0, ih1⟩ := spec_scFill.mono_l k
 unfold spec_scFill.f
 exact mo13_
set_option maxHeartbeats 8000000 in
set_option maxRecDepth 100000 in
theorem spec_scFill.calls (k : Nat) (A0 : Option Addr) (c0 : Nat) (l0 : List ByteArray) (a1 : ByteArray) (r : List ByteArray) (w : World) (hr0 : Kd.C Kd.string w A0 l0.length l0) (hc0 : l0.length ≤ c0) (h : spec_scFill.f k l0 a1 = some r) :
  Calls Try.prog 117 #[.slice A0 l0.length c0, .string a1] w fun e w' => ∃ v0_ : Value, e = .returned (v0_) ∧ Kd.R Kd.string 9 w' w.heap.size (fun _ => True) v0_ r ∧ Below w.heap.size w w' := by
 have HR0 := Aside0.mk hr0
 have HC0 := Aside0.mk hc0
 clear hr0 hc0
 have HB := Aside0.mk (Below.refl w.heap.size w)
 have H : (spec_scFill.l0 k a1 ([] : List ByteArray) l0 (l0.length : Int) 0) = some r := h
 clear h
 have H' := Aside0.mk H
 clear H
 go_enter Try.func117, Try.ntmps117
 go_wp2
 go_loopg [5, 12] k (fun kq v5 v12 w' => ∃ (x5_1 : List ByteArray) (x12_1 : Int), v12 = .int .i64 x12_1 ∧ Aside0 (spec_scFill.l0 kq a1 x5_1 l0 (l0.length : Int) x12_1 = some r) ∧ Aside0 (kq ≤ k) ∧ Aside0 (Kd.R Kd.string 9 w' w.heap.size (fun _ => True) v5 x5_1) ∧ Aside0 (Below w.heap.size w w'))
 case atStart => exact ⟨(([] : List ByteArray)), (0), (Z10), H', ⟨Nat.le_refl _⟩, ⟨Z21⟩, ⟨Z2⟩⟩
 case round =>
  clear H'
  (try clear c1); (try clear p2)
  obtain ⟨x5_1, x12_1, rfl, HA, HK1, HO_5, HB⟩ := hrel
  cases gk with
  | zero => exact absurd HA.out (by simp [spec_scFill.l0])
  | succ k1 =>
   have H := HA.out
   clear HA
   simp only [spec_scFill.l0] at H
   by_cases c3 : x12_1 < (l0.length : Int)
   ·rw [if_pos c3] at H
    have c3b0 : decide (x12_1 < (l0.length : Int)) = true := decide_eq_true c3
    clear c3
    by_cases c4 : 0 ≤ x12_1
    ·rw [if_pos c4] at H
     have c4b0 : decide (0 ≤ x12_1) = true := decide_eq_true c4
     clear c4
     by_cases c5 : x12_1 < (l0.length : Int)
     ·rw [if_pos c5] at H
      have c5b0 : decide (x12_1 < (l0.length : Int)) = true := decide_eq_true c5
      clear c5
      have H' := Aside0.mk H
      clear H
      have p490 : 0 ≤ (x12_1 : Int) := of_decide_eq_true (Z8)
      have q490 : x12_1 < (l0.length : Int) := of_decide_eq_true (Z8)
      obtain ⟨ad490, e490, hx490_0⟩ := Kd.at_string HR0.out x12_1 p490 q490
      cases e490
      replace hx490_0 := (HB.out.cell (World.block_lt_of_cell? w _ hx490_0)).trans hx490_0
      replace p490 := eq_true p490
      replace q490 := eq_true q490
      go_wp2
      go_loopg [8, 9] k1 (fun kq v8 v9 w' => ∃ (x8_2 : ByteArray) (x9_2 : Int), v8 = .string x8_2 ∧ v9 = .int .i64 x9_2 ∧ Aside0 (spec_scFill.l1 kq a1 x5_1 (rdOf ByteArray.empty l0 x12_1) x8_2 x9_2 l0 (l0.length : Int) x12_1 = some r) ∧ Aside0 (kq ≤ k1) ∧ Aside0 (Kd.R Kd.string 9 w' w.heap.size (fun _ => True) u5 x5_1) ∧ Aside0 (Below w.heap.size w w'))
      case atStart => exact ⟨((⟨#[]⟩ : ByteArray)), (0), (Z10), (Z10), H', ⟨Nat.le_refl _⟩, ⟨Z1 HO_5.out⟩, ⟨Z2⟩⟩
      case round =>
       clear H'
       (try clear c3); (try clear c3b0); (try clear c4); (try clear c4b0); (try clear p4); (try clear q4); (try clear hx4); (try clear c5); (try clear c5b0); (try clear hx490_0); (try clear p490); (try clear q490)
       obtain ⟨x8_2, x9_2, rfl, rfl, HA, HK2, HO_5, HB⟩ := hrel
       cases gk with
       | zero => exact absurd HA.out (by simp [spec_scFill.l1])
       | succ k2 =>
        have H := HA.out
        clear HA
        simp only [spec_scFill.l1] at H
        by_cases c6 : x9_2 < ((rdOf ByteArray.empty l0 x12_1).size : Int)
        ·rw [if_pos c6] at H
         have c6b0 : decide (x9_2 < ((rdOf ByteArray.empty l0 x12_1).size : Int)) = true := decide_eq_true c6
         clear c6
         by_cases c7 : 0 ≤ x9_2
         ·rw [if_pos c7] at H
          have c7b0 : decide (0 ≤ x9_2) = true := decide_eq_true c7
          clear c7
          by_cases c9 : (bt (rdOf ByteArray.empty l0 x12_1) x9_2) = 63
          ·rw [if_pos c9] at H
           have c9b0 : ((bt (rdOf ByteArray.empty l0 x12_1) x9_2) == 63) = true := beq_iff_eq.mpr c9
           have c9b1 : ((bt (rdOf ByteArray.empty l0 x12_1) x9_2) != 63) = false := bne_eq_false_iff_eq.mpr c9
           clear c9
           by_cases c10 : x8_2.size + a1.size ≤ 9223372036854775807
           ·rw [if_pos c10] at H
            have c10b0 := eq_true c10
            have c10b1 : decide (x8_2.size + a1.size ≤ 9223372036854775807) = true := decide_eq_true c10
            try have c10b2 : (9223372036854775807 < x8_2.size + a1.size) = False := eq_false (Nat.not_lt.2 c10)
            have H' := Aside0.mk H
            clear H
            have p8 : 0 ≤ (x9_2 : Int) := of_decide_eq_true (Z8)
            have q8 : x9_2 < ((rdOf ByteArray.empty l0 x12_1).size : Int) := of_decide_eq_true (Z8)
            have hx8 := bt_at (rdOf ByteArray.empty l0 x12_1) x9_2
            replace p8 := eq_true p8
            replace q8 := eq_true q8
            go_wp2
            go_roundg k2
            case measure => have := HK1.out; have := HK2.out; omega
            case rel => exact ⟨(x8_2 ++ a1), (wrap64 (x9_2 + 1)), (Z10), (Z10), H', ⟨Z47⟩, ⟨Z1 HO_5.out⟩, ⟨Z2⟩⟩
           rw [if_neg c10] at H
           exact absurd H (by simp)
          rw [if_neg c9] at H
          have c9b0 : ((bt (rdOf ByteArray.empty l0 x12_1) x9_2) == 63) = false := beq_eq_false_iff_ne.mpr c9
          have c9b1 : ((bt (rdOf ByteArray.empty l0 x12_1) x9_2) != 63) = true := bne_iff_ne.mpr c9
          have c11b0 := eq_true (of_decide_eq_true (Z8) : 0 ≤ x9_2)
          by_cases c12 : x9_2 ≤ (wrap64 (x9_2 + 1))
          ·rw [if_pos c12] at H
           have c12b0 := eq_true c12
           have c12b1 : decide (x9_2 ≤ (wrap64 (x9_2 + 1))) = true := decide_eq_true c12
           by_cases c13 : (wrap64 (x9_2 + 1)) ≤ ((rdOf ByteArray.empty l0 x12_1).size : Int)
           ·rw [if_pos c13] at H
            have c13b0 := eq_true c13
            have c13b1 : decide ((wrap64 (x9_2 + 1)) ≤ ((rdOf ByteArray.empty l0 x12_1).size : Int)) = true := decide_eq_true c13
            by_cases c14 : x8_2.size + ((rdOf ByteArray.empty l0 x12_1).extract (x9_2 : Int).toNat ((wrap64 (x9_2 + 1)) : Int).toNat).size ≤ 9223372036854775807
            ·rw [if_pos c14] at H
             have c14b0 := eq_true c14
             have c14b1 : decide (x8_2.size + ((rdOf ByteArray.empty l0 x12_1).extract (x9_2 : Int).toNat ((wrap64 (x9_2 + 1)) : Int).toNat).size ≤ 9223372036854775807) = true := decide_eq_true c14
             try have c14b2 : (9223372036854775807 < x8_2.size + ((rdOf ByteArray.empty l0 x12_1).extract (x9_2 : Int).toNat ((wrap64 (x9_2 + 1)) : Int).toNat).size) = False := eq_false (Nat.not_lt.2 c14)
             have H' := Aside0.mk H
             clear H
             have p8 : 0 ≤ (x9_2 : Int) := of_decide_eq_true (Z8)
             have q8 : x9_2 < ((rdOf ByteArray.empty l0 x12_1).size : Int) := of_decide_eq_true (Z8)
             have hx8 := bt_at (rdOf ByteArray.empty l0 x12_1) x9_2
             replace p8 := eq_true p8
             replace q8 := eq_true q8
             go_wp2
             go_roundg k2
             case measure => have := HK1.out; have := HK2.out; omega
             case rel => exact ⟨(x8_2 ++ ((rdOf ByteArray.empty l0 x12_1).extract (x9_2 : Int).toNat ((wrap64 (x9_2 + 1)) : Int).toNat)), (wrap64 (x9_2 + 1)), (Z10), (Z10), H', ⟨Z47⟩, ⟨Z1 HO_5.out⟩, ⟨Z2⟩⟩
            rw [if_neg c14] at H
            exact absurd H (by simp)
           rw [if_neg c13] at H
           exact absurd H (by simp)
          rw [if_neg c12] at H
          exact absurd H (by simp)
         rw [if_neg c7] at H
         exact absurd H (by simp)
        rw [if_neg c6] at H
        have c6b0 : decide (x9_2 < ((rdOf ByteArray.empty l0 x12_1).size : Int)) = false := decide_eq_false c6
        clear c6
        by_cases c15 : x5_1.length < 8796093022208
        ·rw [if_pos c15] at H
         have LMc15 := Aside0.mk c15
         clear c15
         obtain ⟨y491, hy491⟩ : ∃ y_ : List ByteArray, y_ = (x5_1 ++ [x8_2]) := ⟨_, rfl⟩
         replace H : (spec_scFill.l0 k2 a1 y491 l0 (l0.length : Int) (wrap64 (x12_1 + 1))) = some r := by first | (rw [hy491]; with_reducible exact H) | (have H2_ := (Option.bind_some _ _).symm.trans H; rw [hy491]; with_reducible exact H2_) | (have H2_ := (Option.bind_some _ _).symm.trans H; with_reducible exact H2_) | with_reducible exact H | (rw [hy491]; exact H) | exact H
         have Ny491 := Aside0.mk hy491
         clear hy491
         have H' := Aside0.mk H
         clear H
         go_wp2_with (first | ((with_reducible refine gate_builtin (b := .append) (xs := #[.tmp 36, .tmp 38]) rfl ?_); at_builtin; refine Kd.R_append Kd.string (w0 := w) w.heap.size rfl (.tmp 36) (.tmp 38) 24 9 (.string ⟨#[]⟩) 16 rfl Try.underlying24 info9 rfl (by decide) (by omega) u5 x5_1 x8_2 [.string x8_2] (fun _ => True) (fun _ => False) rfl rfl ?aP (fun _ hk => hk.elim) ?aF ?aO ?aB ?aS ?aL ?_; (case aP => exact rfl); (case aB => exact Z2); (case aF => exact (fun _ _ => trivial)); (case aO => exact Z1 HO_5.out); (case aS => exact (below_size (Z2))); (case aL => have := LMc15.out; omega); intro v492 w16 ho hb hg hat; rw [← Ny491.out] at ho; refine k2_ (hb) (ho) ?_; clear HB HO_5; intro HB HO493; clear ho hb hg hat))
         go_roundg k2
         case measure => have := HK1.out; have := HK2.out; omega
         case rel => exact ⟨(y491), (wrap64 (x12_1 + 1)), (Z10), H', ⟨Z47⟩, ⟨Z1 HO493.out⟩, ⟨Z2⟩⟩
        rw [if_neg c15] at H
        exact absurd H (by simp)
     rw [if_neg c5] at H
     exact absurd H (by simp)
    rw [if_neg c4] at H
    exact absurd H (by simp)
   rw [if_neg c3] at H
   have c3b0 : decide (x12_1 < (l0.length : Int)) = false := decide_eq_false c3
   clear c3
   obtain rfl := Option.some.inj H
   go_wp2
   go_ret
   exact ⟨_, Z11, Z1 HO_5.out, Z2⟩

/-! ### spec_l1Cur_of: function 118 -/
def spec_l1Cur_of.f (s0_0 : List Int) (s0_1 : Int) (s0_2 : Int) (l1 : List ByteArray) : Option (ByteArray × Int × Int) := (spec_l1Cur_pick.f s0_0 s0_1 s0_2 (l1.length : Int)).bind fun bt494 => (if 0 ≤ bt494.1 then (if bt494.1 < (l1.length : Int) then (some (rdOf ByteArray.empty l1 bt494.1, bt494.2.1, bt494.2.2)) else (none)) else (none))
set_option maxHeartbeats 8000000 in
set_option maxRecDepth 100000 in
theorem spec_l1Cur_of.calls (g : Nat) (s0_0 : List Int) (s0_1 : Int) (s0_2 : Int) (A1 : Option Addr) (c1 : Nat) (l1 : List ByteArray) (r1 : ByteArray) (r2 : Int) (r3 : Int) (w0 w : World) (hI : IsS69 w0 w g s0_0 s0_1 s0_2) (hB : Below w0.heap.size w0 w) (hr1 : Kd.C Kd.string w A1 l1.length l1) (hc1 : l1.length ≤ c1) (hf1 : ∀ ad, A1 = some ad → 0 < l1.length → ad.block ≠ g) (h : spec_l1Cur_of.f s0_0 s0_1 s0_2 l1 = some (r1, r2, r3)) :
  Calls Try.prog 118 #[.pointer (some ⟨g, 0, none⟩), .slice A1 l1.length c1] w fun e w' => e = .returned (.string r1) ∧ IsS69 w0 w' g s0_0 r2 r3 ∧ Below w0.heap.size w0 w' ∧ KeepBut w w' g none := by
 have HR1 := Aside0.mk hr1
 have HC1 := Aside0.mk hc1
 clear hr1 hc1
 have HI0 := Aside0.mk hI
 have HK := Aside0.mk (KeepBut.refl w g none)
 have HL := Aside0.mk hB.size
 clear hI
 have HW0 := Aside0.mk hB.size
 have HB := Aside0.mk hB
 clear hB
 have H : ((spec_l1Cur_pick.f s0_0 s0_1 s0_2 (l1.length : Int)).bind fun bt494 => (if 0 ≤ bt494.1 then (if bt494.1 < (l1.length : Int) then (some (rdOf ByteArray.empty l1 bt494.1, bt494.2.1, bt494.2.2)) else (none)) else (none))) = some (r1, r2, r3) := h
 clear h
 replace H := Option.bind_eq_some_iff.mp H
 obtain ⟨⟨t494, t495, t496⟩, A30, H⟩ := H
 (try dsimp only at H)
 have A3 := Aside0.mk A30
 clear A30
 by_cases c4 : 0 ≤ t494
 ·rw [if_pos c4] at H
  have c4b0 : decide (0 ≤ t494) = true := decide_eq_true c4
  clear c4
  by_cases c5 : t494 < (l1.length : Int)
  ·rw [if_pos c5] at H
   have c5b0 : decide (t494 < (l1.length : Int)) = true := decide_eq_true c5
   clear c5
   simp only [Option.some.injEq, Prod.mk.injEq] at H
   obtain ⟨rfl, rfl, rfl⟩ := H
   go_enter Try.func118, Try.ntmps118
   go_wp2_with (first | ((with_reducible refine gate_callee (f := 45) rfl ?_); refine gl_ 9 Try.func45 #[.pointer (some ⟨g, 0, none⟩), .int .i64 (l1.length : Int)] ?_; (with_reducible refine (spec_l1Cur_pick.calls g s0_0 s0_1 s0_2 (l1.length : Int) t494 t495 t496 w0 _ ?_ ?_ A3.out).mono ?_); exact Z3 HI0.out; exact Z7; rintro e w6 ⟨rfl, hi, hb, hk⟩; refine ⟨_, rfl, ?_⟩; refine k3_ (KeepBut.trans (Z6) hk (.inl rfl)) (hb) (hi) ?_; clear HK HB HI0; intro HK HB HI0; (try clear hb hk hi); have p497 : 0 ≤ (t494 : Int) := of_decide_eq_true (Z8); have q497 : t494 < (l1.length : Int) := of_decide_eq_true (Z8); obtain ⟨ad497, e497, hx497_0⟩ := Kd.at_string HR1.out t494 p497 q497; cases e497; replace hx497_0 := keep_cell HK.out hx497_0 (by first | (rw [add_block]; exact hf1 _ rfl (by omega)) | exact hf1 _ rfl (by omega) | exact hf1 ad497 rfl (by omega)); replace p497 := eq_true p497; replace q497 := eq_true q497))
   go_ret
   exact ⟨Z11, Z3 HI0.out, Z7, Z6⟩
  rw [if_neg c5] at H
  exact absurd H (by simp)
 rw [if_neg c4] at H
 exact absurd H (by simp)

end Go.Proofs.Ytmnnmddfmmaohaa.PFnStains
