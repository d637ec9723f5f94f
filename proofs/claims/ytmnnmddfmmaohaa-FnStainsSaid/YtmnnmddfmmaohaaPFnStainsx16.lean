-- written by a program of this session: the kit's print, with outer functions of the session's own (wip/ext)
import Derived.Test.YtmnnmddfmmaohaaPFnStainsx0
import Derived.Test.YtmnnmddfmmaohaaPFnStainsx7
import Derived.Test.YtmnnmddfmmaohaaPFnStainsx11
namespace Go.Proofs.Ytmnnmddfmmaohaa.PFnStains
open Go.RowKit Go.Proofs.YtmnnmddfmmaohaaW.PrintWords Go.Proofs.YtmnnmddfmmaohaaW.PrintLast Go.Proofs.YtmnnmddfmmaohaaW.PrintMore
attribute [local go_sem] max2_int min2_int max_two min_two max_three min_three max_four min_four   -- for this text's walks alone
set_option linter.unusedVariables false
set_option linter.unusedSimpArgs false
theorem mo16_ {p : Prop} (h : p := by repeat' first | (with_reducible first | apply impl_drawnW.mono | apply impl_drawnW.mono | apply impl_scanFaults.mono | apply impl_scanFaults.mono | apply impl_skewScan.mono | apply impl_skewScan.mono | exact LeO.refl _ | exact LeO.none _ | refine LeO.ite ?_ ?_ | refine LeO.bind ?_ (fun _ => ?_)) | exact LeO.none _ | refine LeO.ite ?_ ?_ | refine LeO.bind ?_ (fun _ => ?_)) : p := h

/-! ### impl_bestByW: function 61: by this session -/
mutual
def impl_bestBy.l0 (F : Int → Option Int) : Nat → Int → Int → Int → Int → Option (Int × Int)
 | 0, _, _, _, _ => none
 | k + 1, x0, x6, x7, x8 => if x8 ≤ x0 then ((some (([wrap64 (-x8), x8] : List Int) : List Int)).bind fun y148 => (impl_bestBy.l1 F k x0 x6 x7 x8 y148 (y148.length : Int) 0)) else (some (x6, x7))
def impl_bestBy.l1 (F : Int → Option Int) : Nat → Int → Int → Int → Int → List Int → Int → Int → Option (Int × Int)
 | 0, _, _, _, _, _, _, _ => none
 | k + 1, x0, x6, x7, x8, x22, x23, x24 => if x24 < x23 then (if 0 ≤ x24 then (if x24 < (x22.length : Int) then ((F (rd x22 x24)).bind fun t152 => (if t152 < x7 then (impl_bestBy.l1 F k x0 (rd x22 x24) t152 x8 x22 x23 (wrap64 (x24 + 1))) else (impl_bestBy.l1 F k x0 x6 x7 x8 x22 x23 (wrap64 (x24 + 1))))) else (none)) else (none)) else (impl_bestBy.l0 F k x0 x6 x7 (wrap64 (x8 + 1)))
end
def impl_bestBy.f (F : Int → Option Int) (k : Nat) (a0 : Int) : Option (Int × Int) := (F 0).bind fun t147 => (impl_bestBy.l0 F k a0 0 t147 1)
theorem impl_bestBy.mono2_l (F G : Int → Option Int) (hFG : ∀ a, LeO (F a) (G a)) : ∀ k, (∀ y0 y1 y2 y3, LeO (impl_bestBy.l0 F k y0 y1 y2 y3) (impl_bestBy.l0 G (k + 1) y0 y1 y2 y3)) ∧ (∀ y0 y1 y2 y3 y4 y5 y6, LeO (impl_bestBy.l1 F k y0 y1 y2 y3 y4 y5 y6) (impl_bestBy.l1 G (k + 1) y0 y1 y2 y3 y4 y5 y6))
 | 0 => ⟨fun _ _ _ _ r h => by simp [impl_bestBy.l0] at h, fun _ _ _ _ _ _ _ r h => by simp [impl_bestBy.l1] at h⟩
 | k + 1 => by
  obtain ⟨ih0, ih1⟩ := impl_bestBy.mono2_l F G hFG k
  refine ⟨?_, ?_⟩
  ·intro y0 y1 y2 y3
   unfold impl_bestBy.l0
   repeat' first
   | (with_reducible exact ih0 _ _ _ _)
   | (with_reducible exact ih1 _ _ _ _ _ _ _)
   | (with_reducible exact hFG _)
   | (with_reducible exact LeO.refl _)
   | (with_reducible exact LeO.none _)
   | (with_reducible refine LeO.ite ?_ ?_)
   | (with_reducible refine LeO.bind ?_ (fun _ => ?_))
   | exact ih0 _ _ _ _
   | exact ih1 _ _ _ _ _ _ _
   | exact LeO.none _
   | refine LeO.ite ?_ ?_
   | refine LeO.bind ?_ (fun _ => ?_)
  intro y0 y1 y2 y3 y4 y5 y6
  unfold impl_bestBy.l1
  repeat' first
  | (with_reducible exact ih0 _ _ _ _)
  | (with_reducible exact ih1 _ _ _ _ _ _ _)
  | (with_reducible exact hFG _)
  | (with_reducible exact LeO.refl _)
  | (with_reducible exact LeO.none _)
  | (with_reducible refine LeO.ite ?_ ?_)
  | (with_reducible refine LeO.bind ?_ (fun _ => ?_))
  | exact ih0 _ _ _ _
  | exact ih1 _ _ _ _ _ _ _
  | exact LeO.none _
  | refine LeO.ite ?_ ?_
  | refine LeO.bind ?_ (fun _ => ?_)
theorem impl_bestBy.mono2 (F G : Int → Option Int) (hFG : ∀ a, LeO (F a) (G a)) : ∀ a0 k, LeO (impl_bestBy.f F k a0) (impl_bestBy.f G (k + 1) a0) := by
 intro a0 k
 obtain ⟨ih0, ih1⟩ := impl_bestBy.mono2_l F G hFG k
 unfold impl_bestBy.f
 repeat' first
   | (with_reducible exact ih0 _ _ _ _)
   | (with_reducible exact ih1 _ _ _ _ _ _ _)
   | (with_reducible exact hFG _)
   | (with_reducible exact LeO.refl _)
   | (with_reducible exact LeO.none _)
   | (with_reducible refine LeO.ite ?_ ?_)
   | (with_reducible refine LeO.bind ?_ (fun _ => ?_))
   | exact ih0 _ _ _ _
   | exact ih1 _ _ _ _ _ _ _
   | exact LeO.none _
   | refine LeO.ite ?_ ?_
   | refine LeO.bind ?_ (fun _ => ?_)
set_option maxHeartbeats 8000000 in
set_option maxRecDepth 100000 in
theorem impl_bestBy.calls (F : Int → Option Int) (cf : FuncId) (fn : Func) (caps : Array Value) (hcf : Try.prog.funcs[cf]? = some fn) (hcn : (fn.name == "runtime.NumGoroutine") = false) (hcb : fn.body.isSome = true) (k : Nat) (a0 : Int) (r1 : Int) (r2 : Int) (w : World)
  (hF : ∀ (a r : Int) (W : World), Below w.heap.size w W → F a = some r → Calls Try.prog cf (#[.int .i64 a] ++ caps) W fun e w' => e = .returned (.int .i64 r) ∧ Below W.heap.size W w') (h : impl_bestBy.f F k a0 = some (r1, r2)) :
  Calls Try.prog 61 #[.int .i64 a0, .func (.func cf) #[] caps] w fun e w' => e = .returned (.tuple #[.int .i64 r1, .int .i64 r2]) ∧ Below w.heap.size w w' := by
 have HB := Aside0.mk (Below.refl w.heap.size w)
 have HF := Aside0.mk hF
 have HCF := Aside0.mk hcf
 have HCN := Aside0.mk hcn
 have HCB := Aside0.mk hcb
 clear hF hcf hcn hcb
 have H : ((F 0).bind fun t147 => (impl_bestBy.l0 F k a0 0 t147 1)) = some (r1, r2) := h
 clear h
 replace H := Option.bind_eq_some_iff.mp H
 obtain ⟨t147, A20, H⟩ := H
 (try dsimp only at H)
 have A2 := Aside0.mk A20
 clear A20
 have H' := Aside0.mk H
 clear H
 go_enter Try.func61, Try.ntmps61
 go_wp2_with (first | ((with_reducible refine gate_valuecall (s := 12) rfl ?_); refine goesV_ (some 13) rfl rfl HCF.out HCN.out HCB.out #[.int .i64 0] caps rfl (by rfl) (Z18) ?_; (with_reducible refine (HF.out 0 t147 _ (Z2) A2.out).mono ?_); rintro e w3 ⟨rfl, hb⟩; refine ⟨_, rfl, ?_⟩; refine k1_ (below_step (Z2) hb) ?_; clear HB; intro HB; (try clear hb)))
 go_loopg [6, 7, 8] k (fun kq v6 v7 v8 w' => ∃ (x6_1 : Int) (x7_1 : Int) (x8_1 : Int), v6 = .int .i64 x6_1 ∧ v7 = .int .i64 x7_1 ∧ v8 = .int .i64 x8_1 ∧ Aside0 (impl_bestBy.l0 F kq a0 x6_1 x7_1 x8_1 = some (r1, r2)) ∧ Aside0 (kq ≤ k) ∧ Aside0 (Below w.heap.size w w'))
 case atStart => exact ⟨(0), (t147), (1), (Z10), (Z10), (Z10), H', ⟨Nat.le_refl _⟩, ⟨Z2⟩⟩
 case round =>
  clear H'
  (try clear c1); (try clear p2)
  obtain ⟨x6_1, x7_1, x8_1, rfl, rfl, rfl, HA, HK1, HB⟩ := hrel
  cases gk with
  | zero => exact absurd HA.out (by simp [impl_bestBy.l0])
  | succ k1 =>
   have H := HA.out
   clear HA
   simp only [impl_bestBy.l0] at H
   by_cases c4 : x8_1 ≤ a0
   ·rw [if_pos c4] at H
    have c4b0 : decide (x8_1 ≤ a0) = true := decide_eq_true c4
    clear c4
    obtain ⟨y148, hy148⟩ : ∃ y_ : List Int, y_ = (([wrap64 (-x8_1), x8_1] : List Int)) := ⟨_, rfl⟩
    replace H : (impl_bestBy.l1 F k1 a0 x6_1 x7_1 x8_1 y148 (y148.length : Int) 0) = some (r1, r2) := by first | (rw [hy148]; with_reducible exact H) | (have H2_ := (Option.bind_some _ _).symm.trans H; rw [hy148]; with_reducible exact H2_) | (have H2_ := (Option.bind_some _ _).symm.trans H; with_reducible exact H2_) | with_reducible exact H | (rw [hy148]; exact H) | exact H
    have Ny148 := Aside0.mk hy148
    clear hy148
    have H' := Aside0.mk H
    clear H
    go_wp2_with (first | ((with_reducible refine gate_dst (N := 22) rfl ?_); refine Kd.R_lit (Kd.int .i64) _ 3 ?hg (N := 22) ?hd (xs := ([wrap64 (-x8_1), x8_1] : List Int)) (inner := [.int .i64 (wrap64 (-x8_1)), .int .i64 x8_1]) (ok := fun _ => True) (okp := fun _ => True) ?hr ?hp (fun _ hk => hk) trivial (Below.refl _ _) (Nat.le_refl _) (by simp) ?_; (case hd => rfl); (case hg => rfl); (case hr => exact Z44); (case hp => exact (Reps.one (show Kd.M (Kd.int .i64) _ _ _ (wrap64 (-x8_1)) [.int .i64 (wrap64 (-x8_1))] from rfl) (Reps.one (show Kd.M (Kd.int .i64) _ _ _ x8_1 [.int .i64 x8_1] from rfl) (Reps.none _ _)))); intro v149 w5 ho6 hb hg_ hnew_; clear hg_ hnew_; (first | rw [← Ny148.out] at ho6 | (simp only [Int.reduceToNat] at ho6; rw [← Ny148.out] at ho6)); refine k2_ (Kd.R_lower ho6 (below_size (Z2))) (below_step (Z2) hb) ?_; clear HB; intro HO150 HB; clear hb ho6; obtain ⟨Ao7, co7, eo7⟩ := Kd.R_slice HO150.out; subst eo7))
    go_loopg [6, 7, 24] k1 (fun kq v6 v7 v24 w' => ∃ (x6_2 : Int) (x7_2 : Int) (x24_2 : Int), v6 = .int .i64 x6_2 ∧ v7 = .int .i64 x7_2 ∧ v24 = .int .i64 x24_2 ∧ Aside0 (impl_bestBy.l1 F kq a0 x6_2 x7_2 x8_1 y148 (y148.length : Int) x24_2 = some (r1, r2)) ∧ Aside0 (kq ≤ k1) ∧ Aside0 (Kd.R (Kd.int .i64) 3 w' w.heap.size (fun _ => True) (.slice Ao7 y148.length co7) y148) ∧ Aside0 (Below w.heap.size w w'))
    case atStart => exact ⟨(x6_1), (x7_1), (0), (Z10), (Z10), (Z10), H', ⟨Nat.le_refl _⟩, ⟨Z1 HO150.out⟩, ⟨Z2⟩⟩
    case round =>
     clear H'
     (try clear c4); (try clear c4b0); (try clear p6)
     obtain ⟨x6_2, x7_2, x24_2, rfl, rfl, rfl, HA, HK2, HO_22, HB⟩ := hrel
     cases gk with
     | zero => exact absurd HA.out (by simp [impl_bestBy.l1])
     | succ k2 =>
      have H := HA.out
      clear HA
      simp only [impl_bestBy.l1] at H
      by_cases c8 : x24_2 < (y148.length : Int)
      ·rw [if_pos c8] at H
       have c8b0 : decide (x24_2 < (y148.length : Int)) = true := decide_eq_true c8
       clear c8
       by_cases c9 : 0 ≤ x24_2
       ·rw [if_pos c9] at H
        have c9b0 : decide (0 ≤ x24_2) = true := decide_eq_true c9
        clear c9
        by_cases c10 : x24_2 < (y148.length : Int)
        ·rw [if_pos c10] at H
         have c10b0 : decide (x24_2 < (y148.length : Int)) = true := decide_eq_true c10
         clear c10
         replace H := Option.bind_eq_some_iff.mp H
         obtain ⟨t152, A110, H⟩ := H
         (try dsimp only at H)
         have A11 := Aside0.mk A110
         clear A110
         by_cases c12 : t152 < x7_2
         ·rw [if_pos c12] at H
          have c12b0 : decide (t152 < x7_2) = true := decide_eq_true c12
          clear c12
          have H' := Aside0.mk H
          clear H
          have p151 : 0 ≤ (x24_2 : Int) := of_decide_eq_true (Z8)
          have q151 : x24_2 < (y148.length : Int) := of_decide_eq_true (Z8)
          obtain ⟨ad151, e151, hx151_0⟩ := Kd.at_int (Kd.R_reads' HO_22.out).2.2 x24_2 p151 q151
          cases e151
          replace p151 := eq_true p151
          replace q151 := eq_true q151
          go_wp2_with (first | ((with_reducible refine gate_valuecall (s := 28) rfl ?_); refine goesV_ (some 30) rfl rfl HCF.out HCN.out HCB.out #[.int .i64 (rd y148 x24_2)] caps rfl (by rfl) (Z18) ?_; (with_reducible refine (HF.out (rd y148 x24_2) t152 _ (Z2) A11.out).mono ?_); rintro e w13 ⟨rfl, hb⟩; refine ⟨_, rfl, ?_⟩; refine k2_ (Kd.R_below (Z1 HO_22.out) hb) (below_step (Z2) hb) ?_; clear HO_22 HB; intro HO_22 HB; (try clear hb)))
          go_roundg k2
          case measure => have := HK1.out; have := HK2.out; omega
          case rel => exact ⟨(rd y148 x24_2), (t152), (wrap64 (x24_2 + 1)), (Z10), (Z10), (Z10), H', ⟨Z47⟩, ⟨Z1 HO_22.out⟩, ⟨Z2⟩⟩
         rw [if_neg c12] at H
         have c12b0 : decide (t152 < x7_2) = false := decide_eq_false c12
         clear c12
         have H' := Aside0.mk H
         clear H
         have p151 : 0 ≤ (x24_2 : Int) := of_decide_eq_true (Z8)
         have q151 : x24_2 < (y148.length : Int) := of_decide_eq_true (Z8)
         obtain ⟨ad151, e151, hx151_0⟩ := Kd.at_int (Kd.R_reads' HO_22.out).2.2 x24_2 p151 q151
         cases e151
         replace p151 := eq_true p151
         replace q151 := eq_true q151
         go_wp2_with (first | ((with_reducible refine gate_valuecall (s := 28) rfl ?_); refine goesV_ (some 30) rfl rfl HCF.out HCN.out HCB.out #[.int .i64 (rd y148 x24_2)] caps rfl (by rfl) (Z18) ?_; (with_reducible refine (HF.out (rd y148 x24_2) t152 _ (Z2) A11.out).mono ?_); rintro e w14 ⟨rfl, hb⟩; refine ⟨_, rfl, ?_⟩; refine k2_ (Kd.R_below (Z1 HO_22.out) hb) (below_step (Z2) hb) ?_; clear HO_22 HB; intro HO_22 HB; (try clear hb)))
         go_roundg k2
         case measure => have := HK1.out; have := HK2.out; omega
         case rel => exact ⟨(x6_2), (x7_2), (wrap64 (x24_2 + 1)), (Z10), (Z10), (Z10), H', ⟨Z47⟩, ⟨Z1 HO_22.out⟩, ⟨Z2⟩⟩
        rw [if_neg c10] at H
        exact absurd H (by simp)
       rw [if_neg c9] at H
       exact absurd H (by simp)
      rw [if_neg c8] at H
      have c8b0 : decide (x24_2 < (y148.length : Int)) = false := decide_eq_false c8
      clear c8
      have H' := Aside0.mk H
      clear H
      go_wp2
      go_roundg k2
      case measure => have := HK1.out; have := HK2.out; omega
      case rel => exact ⟨(x6_2), (x7_2), (wrap64 (x8_1 + 1)), (Z10), (Z10), (Z10), H', ⟨Z47⟩, ⟨Z2⟩⟩
   rw [if_neg c4] at H
   have c4b0 : decide (x8_1 ≤ a0) = false := decide_eq_false c4
   clear c4
   simp only [Option.some.injEq, Prod.mk.injEq] at H
   obtain ⟨rfl, rfl⟩ := H
   go_wp2
   go_ret2
   exact ⟨Z11, Z2⟩

def impl_bestByW.f (k : Nat) (a0 : Int) (F : Int → Option Int) : Option (Int × Int) := impl_bestBy.f F k a0
theorem impl_bestByW.mono2 (F G : Int → Option Int) (h : ∀ a, LeO (F a) (G a)) : ∀ a0 k, LeO (impl_bestByW.f k a0 F) (impl_bestByW.f (k + 1) a0 G) := fun a0 k => impl_bestBy.mono2 F G h a0 k
theorem impl_bestByW.mono : ∀ a0 F k, LeO (impl_bestByW.f k a0 F) (impl_bestByW.f (k + 1) a0 F) := fun a0 F k => impl_bestBy.mono2 F F (fun _ => LeO.refl _) a0 k
theorem impl_bestByW.calls (k : Nat) (a0 : Int) (cf : FuncId) (fn : Func) (caps : Array Value) (hcf : Try.prog.funcs[cf]? = some fn) (hcn : (fn.name == "runtime.NumGoroutine") = false) (hcb : fn.body.isSome = true) (F : Int → Option Int) (r1 : Int) (r2 : Int) (w : World)
  (hF : ∀ (a r : Int) (W : World), Below w.heap.size w W → F a = some r → Calls Try.prog cf (#[.int .i64 a] ++ caps) W fun e w' => e = .returned (.int .i64 r) ∧ Below W.heap.size W w') (h : impl_bestByW.f k a0 F = some (r1, r2)) :
  Calls Try.prog 61 #[.int .i64 a0, .func (.func cf) #[] caps] w fun e w' => e = .returned (.tuple #[.int .i64 r1, .int .i64 r2]) ∧ Below w.heap.size w w' :=
 impl_bestBy.calls F cf fn caps hcf hcn hcb k a0 r1 r2 w hF h

/-! ### impl_floorDiv: function 95 -/
def impl_floorDiv.f (a0 : Int) (a1 : Int) : Option (Int) := if a1 = 0 then (none) else (if (Int.tmod a0 a1) = 0 then (some (wrap64 (Int.tdiv a0 a1))) else (if ((decide (a0 < 0)) != (decide (a1 < 0))) = true then (some (wrap64 ((wrap64 (Int.tdiv a0 a1)) - 1))) else (some (wrap64 (Int.tdiv a0 a1)))))
set_option maxHeartbeats 8000000 in
set_option maxRecDepth 100000 in
theorem impl_floorDiv.calls (a0 : Int) (a1 : Int) (r : Int) (w : World) (h : impl_floorDiv.f a0 a1 = some r) :
  Calls Try.prog 95 #[.int .i64 a0, .int .i64 a1] w fun e w' => e = .returned (.int .i64 r) ∧ Drawn0 w w' := by
 have H : (if a1 = 0 then (none) else (if (Int.tmod a0 a1) = 0 then (some (wrap64 (Int.tdiv a0 a1))) else (if ((decide (a0 < 0)) != (decide (a1 < 0))) = true then (some (wrap64 ((wrap64 (Int.tdiv a0 a1)) - 1))) else (some (wrap64 (Int.tdiv a0 a1)))))) = some r := h
 clear h
 by_cases c3 : a1 = 0
 ·rw [if_pos c3] at H
  exact absurd H (by simp)
 rw [if_neg c3] at H
 have c3b0 : (a1 == 0) = false := beq_eq_false_iff_ne.mpr c3
 have c3b1 : (a1 != 0) = true := bne_iff_ne.mpr c3
 by_cases c4 : (Int.tmod a0 a1) = 0
 ·rw [if_pos c4] at H
  have c4b0 : ((Int.tmod a0 a1) == 0) = true := beq_iff_eq.mpr c4
  have c4b1 : ((Int.tmod a0 a1) != 0) = false := bne_eq_false_iff_eq.mpr c4
  clear c4
  obtain rfl := Option.some.inj H
  go_enter Try.func95, Try.ntmps95
  go_wp2
  go_ret
  exact ⟨Z10, Z17⟩
 rw [if_neg c4] at H
 have c4b0 : ((Int.tmod a0 a1) == 0) = false := beq_eq_false_iff_ne.mpr c4
 have c4b1 : ((Int.tmod a0 a1) != 0) = true := bne_iff_ne.mpr c4
 by_cases c5 : ((decide (a0 < 0)) != (decide (a1 < 0))) = true
 ·rw [if_pos c5] at H
  have c5b0 : ((decide (a0 < 0)) != (decide (a1 < 0))) = true := c5
  (try (have c5b1 : decide ((decide (a0 < 0)) = (decide (a1 < 0))) = false := by simpa using c5))
  (try (have c5b2 : ((decide (a0 < 0)) == (decide (a1 < 0))) = false := by simpa using c5))
  (try (have c5b3 : ¬ ((decide (a0 < 0)) = (decide (a1 < 0))) := by simpa using c5))
  clear c5
  obtain rfl := Option.some.inj H
  go_enter Try.func95, Try.ntmps95
  go_wp2
  go_ret
  exact ⟨Z10, Z17⟩
 rw [if_neg c5] at H
 have c5b0 : ((decide (a0 < 0)) != (decide (a1 < 0))) = false := by simpa using c5
 (try (have c5b1 : decide ((decide (a0 < 0)) = (decide (a1 < 0))) = true := by simpa using c5))
 (try (have c5b2 : ((decide (a0 < 0)) == (decide (a1 < 0))) = true := by simpa using c5))
 clear c5
 obtain rfl := Option.some.inj H
 go_enter Try.func95, Try.ntmps95
 go_wp2
 go_ret
 exact ⟨Z10, Z17⟩

/-! ### impl_skewScan_1: function 94 -/
def impl_skewScan_1.f (a0 : Int) (a1 : Int) (a2 : Int) (l3 : List ByteArray) : Option (Int) := (impl_floorDiv.f (wrap64 (a1 * a2)) 10).bind fun t594 => (if (wrap64 (a0 + t594)) < 0 then (some 63) else (if (wrap64 (a0 + t594)) ≥ (l3.length : Int) then (some 63) else (if 0 ≤ (wrap64 (a0 + t594)) then (if (wrap64 (a0 + t594)) < (l3.length : Int) then (if 0 ≤ a1 then (if a1 < ((rdOf ByteArray.empty l3 (wrap64 (a0 + t594))).size : Int) then (some (bt (rdOf ByteArray.empty l3 (wrap64 (a0 + t594))) a1)) else (none)) else (none)) else (none)) else (none))))
set_option maxHeartbeats 8000000 in
set_option maxRecDepth 100000 in
theorem impl_skewScan_1.calls (a0 : Int) (a1 : Int) (p2 : Nat) (a2 : Int) (p3 : Nat) (A3 : Option Addr) (c3 : Nat) (l3 : List ByteArray) (r : Int) (w : World) (hr3 : Kd.C Kd.string w A3 l3.length l3) (hc3 : l3.length ≤ c3) (hb2 : w.heap[p2]? = some (.cells #[.int .i64 a2] 3 (0, 0))) (hb3 : w.heap[p3]? = some (.cells #[.slice A3 l3.length c3] 24 (0, 0))) (hn2_3 : p2 ≠ p3) (hn3_2 : p3 ≠ p2) (h : impl_skewScan_1.f a0 a1 a2 l3 = some r) :
  Calls Try.prog 94 #[.int .i64 a0, .int .i64 a1, .pointer (some ⟨p2, 0, none⟩), .pointer (some ⟨p3, 0, none⟩)] w fun e w' => e = .returned (.int .u8 r) ∧ Drawn0 w w' := by
 have hu3 := Try.underlying3
 have hu24 := Try.underlying24
 have hu9 := Try.underlying9
 have HR3 := Aside0.mk hr3
 have HC3 := Aside0.mk hc3
 clear hr3 hc3
 have BK592 := Aside0.mk hb2
 clear hb2
 have BK593 := Aside0.mk hb3
 clear hb3
 have NB592_593 := Aside0.mk hn2_3
 clear hn2_3
 have NB593_592 := Aside0.mk hn3_2
 clear hn3_2
 have H : ((impl_floorDiv.f (wrap64 (a1 * a2)) 10).bind fun t594 => (if (wrap64 (a0 + t594)) < 0 then (some 63) else (if (wrap64 (a0 + t594)) ≥ (l3.length : Int) then (some 63) else (if 0 ≤ (wrap64 (a0 + t594)) then (if (wrap64 (a0 + t594)) < (l3.length : Int) then (if 0 ≤ a1 then (if a1 < ((rdOf ByteArray.empty l3 (wrap64 (a0 + t594))).size : Int) then (some (bt (rdOf ByteArray.empty l3 (wrap64 (a0 + t594))) a1)) else (none)) else (none)) else (none)) else (none))))) = some r := h
 clear h
 replace H := Option.bind_eq_some_iff.mp H
 obtain ⟨t594, A50, H⟩ := H
 (try dsimp only at H)
 have A5 := Aside0.mk A50
 clear A50
 by_cases c6 : (wrap64 (a0 + t594)) < 0
 ·rw [if_pos c6] at H
  have c6b0 : decide ((wrap64 (a0 + t594)) < 0) = true := decide_eq_true c6
  clear c6
  obtain rfl := Option.some.inj H
  have hnb7 := NB592_593.out
  have hnc7 := NB593_592.out
  obtain ⟨hcz8_0, hfz8_0⟩ := bx1_ (w := w) BK592.out
  go_enter Try.func94, Try.ntmps94
  go_wp2_with (first | ((with_reducible refine gate_callee (f := 95) rfl ?_); refine gl_ 12 Try.func95 #[.int .i64 (wrap64 (a1 * a2)), .int .i64 10] ?_; (with_reducible refine (impl_floorDiv.calls (wrap64 (a1 * a2)) 10 t594 _ A5.out).mono ?_); rintro e w' ⟨rfl, ⟨nd, rfl⟩⟩; refine ⟨_, rfl, ?_⟩))
  go_ret
  exact ⟨Z10, Z17⟩
 rw [if_neg c6] at H
 have c6b0 : decide ((wrap64 (a0 + t594)) < 0) = false := decide_eq_false c6
 clear c6
 by_cases c9 : (wrap64 (a0 + t594)) ≥ (l3.length : Int)
 ·rw [if_pos c9] at H
  have c9b0 : decide ((l3.length : Int) ≤ (wrap64 (a0 + t594))) = true := decide_eq_true c9
  clear c9
  obtain rfl := Option.some.inj H
  have hnb10 := NB592_593.out
  have hnc10 := NB593_592.out
  obtain ⟨hcz11_0, hfz11_0⟩ := bx1_ (w := w) BK592.out
  go_enter Try.func94, Try.ntmps94
  go_wp2_with (first | ((with_reducible refine gate_callee (f := 95) rfl ?_); refine gl_ 12 Try.func95 #[.int .i64 (wrap64 (a1 * a2)), .int .i64 10] ?_; (with_reducible refine (impl_floorDiv.calls (wrap64 (a1 * a2)) 10 t594 _ A5.out).mono ?_); rintro e w' ⟨rfl, ⟨nd, rfl⟩⟩; refine ⟨_, rfl, ?_⟩; obtain ⟨hcz12_0, hfz12_0⟩ := bx1_ (w := w) BK593.out))
  go_ret
  exact ⟨Z10, Z17⟩
 rw [if_neg c9] at H
 have c9b0 : decide ((l3.length : Int) ≤ (wrap64 (a0 + t594))) = false := decide_eq_false c9
 clear c9
 obtain ⟨ji13, hji13⟩ : ∃ j_ : Int, (wrap64 (a0 + t594)) = j_ := ⟨_, rfl⟩
 replace H : (if 0 ≤ (ji13) then (if (ji13) < (l3.length : Int) then (if 0 ≤ a1 then (if a1 < ((rdOf ByteArray.empty l3 (ji13)).size : Int) then (some (bt (rdOf ByteArray.empty l3 (ji13)) a1)) else (none)) else (none)) else (none)) else (none)) = some r := by first | (rw [hji13] at H; exact H) | (simp only [hji13] at H ⊢; exact H)
 (try rw [hji13] at c6b0)
 (try rw [hji13] at c9b0)
 (try rw [hji13] at A5)
 have hji13w : (IntKind.i64.wrap (a0 + t594)) = ji13 := (i64_w _).trans hji13
 by_cases c14 : 0 ≤ (ji13)
 ·rw [if_pos c14] at H
  have c14b0 : decide (0 ≤ (ji13)) = true := decide_eq_true c14
  clear c14
  by_cases c15 : (ji13) < (l3.length : Int)
  ·rw [if_pos c15] at H
   have c15b0 : decide ((ji13) < (l3.length : Int)) = true := decide_eq_true c15
   clear c15
   by_cases c16 : 0 ≤ a1
   ·rw [if_pos c16] at H
    have c16b0 : decide (0 ≤ a1) = true := decide_eq_true c16
    clear c16
    by_cases c17 : a1 < ((rdOf ByteArray.empty l3 (ji13)).size : Int)
    ·rw [if_pos c17] at H
     have c17b0 : decide (a1 < ((rdOf ByteArray.empty l3 (ji13)).size : Int)) = true := decide_eq_true c17
     clear c17
     obtain rfl := Option.some.inj H
     have hnb19 := NB592_593.out
     have hnc19 := NB593_592.out
     obtain ⟨hcz20_0, hfz20_0⟩ := bx1_ (w := w) BK592.out
     go_enter Try.func94, Try.ntmps94
     go_wp2_with (first | ((with_reducible refine gate_callee (f := 95) rfl ?_); refine gl_ 12 Try.func95 #[.int .i64 (wrap64 (a1 * a2)), .int .i64 10] ?_; (with_reducible refine (impl_floorDiv.calls (wrap64 (a1 * a2)) 10 t594 _ A5.out).mono ?_); rintro e w' ⟨rfl, ⟨nd, rfl⟩⟩; refine ⟨_, rfl, ?_⟩; obtain ⟨hcz21_0, hfz21_0⟩ := bx1_ (w := w) BK593.out; have p595 : 0 ≤ ((ji13) : Int) := of_decide_eq_true (Z8); have q595 : (ji13) < (l3.length : Int) := of_decide_eq_true (Z8); obtain ⟨ad595, e595, hx595_0⟩ := Kd.at_string HR3.out (ji13) p595 q595; cases e595; replace p595 := eq_true p595; replace q595 := eq_true q595; have p18 : 0 ≤ (a1 : Int) := of_decide_eq_true (Z8); have q18 : a1 < ((rdOf ByteArray.empty l3 (ji13)).size : Int) := of_decide_eq_true (Z8); have hx18 := bt_at (rdOf ByteArray.empty l3 (ji13)) a1; replace p18 := eq_true p18; replace q18 := eq_true q18))
     go_ret
     exact ⟨by first | rfl | (simp; done) | (simp only [← hji13] <;> (first | rfl | simp)) | (simp [*]; done), Z17⟩
    rw [if_neg c17] at H
    exact absurd H (by simp)
   rw [if_neg c16] at H
   exact absurd H (by simp)
  rw [if_neg c15] at H
  exact absurd H (by simp)
 rw [if_neg c14] at H
 exact absurd H (by simp)

/-! ### impl_skewScan: function 63 -/
def impl_skewScan.f (k : Nat) (l0 : List ByteArray) (a1 : Int) : Option (List ByteArray) := if 0 < (l0.length : Int) then ((impl_drawnW.f k (l0.length : Int) ((rdOf ByteArray.empty l0 0).size : Int) (fun a0_ a1_ => impl_skewScan_1.f a0_ a1_ a1 l0)).bind fun t599 => (some t599)) else (none)
theorem impl_skewScan.mono : ∀ a0 a1 k, LeO (impl_skewScan.f k a0 a1) (impl_skewScan.f (k + 1) a0 a1) := by
 intro a0 a1 k
 unfold impl_skewScan.f
 exact mo16_
def impl_skewScan.T1 : Bool × List (List Nat × List Nat) := (true, [([], []), ([0], [0]), ([], []), ([2], [2]), ([3], [3]), ([4], [4]), ([], []), ([1, 5, 6], [1, 5, 6]), ([7, 7, 0, 1, 2, 3, 4, 5, 6, 7], [7])])
def impl_skewScan.B1 : List Nat := [0, 1, 0, 4, 12, 28, 0, 127, 255]
theorem impl_skewScan.tab1 : rtab .any (opsOf Try.f63 1) = impl_skewScan.T1 := by kernel_rfl
theorem impl_skewScan.bits1 : waitsOk impl_skewScan.T1.2 impl_skewScan.B1 = true := by kernel_rfl
set_option maxHeartbeats 8000000 in
set_option maxRecDepth 100000 in
theorem impl_skewScan.calls (k : Nat) (A0 : Option Addr) (c0 : Nat) (l0 : List ByteArray) (a1 : Int) (r : List ByteArray) (w : World) (hr0 : Kd.C Kd.string w A0 l0.length l0) (hc0 : l0.length ≤ c0) (h : impl_skewScan.f k l0 a1 = some r) :
  Calls Try.prog 63 #[.slice A0 l0.length c0, .int .i64 a1] w fun e w' => ∃ v0_ : Value, e = .returned (v0_) ∧ Kd.R Kd.string 9 w' w.heap.size (fun _ => True) v0_ r ∧ Below w.heap.size w w' := by
 have hu24 := Try.underlying24
 have hu3 := Try.underlying3
 have HR0 := Aside0.mk hr0
 have HC0 := Aside0.mk hc0
 clear hr0 hc0
 have HB := Aside0.mk (Below.refl w.heap.size w)
 have H : (if 0 < (l0.length : Int) then ((impl_drawnW.f k (l0.length : Int) ((rdOf ByteArray.empty l0 0).size : Int) (fun a0_ a1_ => impl_skewScan_1.f a0_ a1_ a1 l0)).bind fun t599 => (some t599)) else (none)) = some r := h
 clear h
 by_cases c3 : 0 < (l0.length : Int)
 ·rw [if_pos c3] at H
  have c3b0 : decide (0 < (l0.length : Int)) = true := decide_eq_true c3
  have c3b1 : decide (0 < l0.length) = true := decide_eq_true (by omega)
  clear c3
  replace H := Option.bind_eq_some_iff.mp H
  obtain ⟨t599, A40, H⟩ := H
  replace H : (some t599) = some r := H
  have A4 := Aside0.mk A40
  clear A40
  obtain rfl := Option.some.inj H
  go_enter Try.func63, Try.ntmps63
  try go_wp2_with (first | ((with_reducible refine gate_dst (N := 2) rfl ?_); refine bv_ 2 24 #[.slice A0 l0.length c0] ?_; intro gb596 hg w5 hbox hb; refine k4_ (below_step (Z2) hb) (hbox) ((Z34 : w.heap.size ≤ gb596)) ((Z34 : w.heap.size ≤ gb596)) ?_; clear HB; intro HB BK596 GW596 GE596; clear hb hbox hg) | ((with_reducible refine gate_dst (N := 3) rfl ?_); refine bv_ 3 3 #[.int .i64 a1] ?_; intro gb597 hg w6 hbox hb; refine k7_ (blk_below (g := gb596) (o := .cells #[.slice A0 l0.length c0] 24 (0, 0)) (Z4 BK596.out) hb) (below_step (Z83) hb) (hbox) ((by rw [hg]; exact (below_size (Z83)) : w.heap.size ≤ gb597)) ((by rw [hg]; exact (below_size (Z83)) : w.heap.size ≤ gb597)) ((by rw [hg]; exact Nat.ne_of_lt (blk_lt (g := gb596) (o := .cells #[.slice A0 l0.length c0] 24 (0, 0)) (Z4 BK596.out)) : gb596 ≠ gb597)) ((by rw [hg]; exact Nat.ne_of_gt (blk_lt (g := gb596) (o := .cells #[.slice A0 l0.length c0] 24 (0, 0)) (Z4 BK596.out)) : gb597 ≠ gb596)) ?_; clear BK596 HB; intro BK596 HB BK597 GW597 GE597 NB596_597 NB597_596; clear hb hbox hg))
  refine k3_ (blk_drew BK596.out) (blk_drew BK597.out) (below_drew1 HB.out) ?_
  clear BK596 BK597 HB
  intro BK596 BK597 HB
  have p598 : 0 ≤ (0 : Int) := (by omega)
  have q598 : 0 < (l0.length : Int) := of_decide_eq_true (Z8)
  obtain ⟨ad598, e598, hx598_0⟩ := Kd.at_string HR0.out 0 p598 q598
  have hw598_0 := hx598_0
  (try rw [show ((0 : Int)).toNat = 0 from rfl] at hw598_0)
  (try rw [show 0 * 1 = 0 from rfl] at hw598_0)
  (try rw [Addr.add_zero'] at hw598_0)
  cases e598
  have qi598 : (0 < l0.length) = True := eq_true (by omega)
  (try rw [show ((0 : Int)).toNat = 0 from rfl] at hx598_0)
  (try rw [Addr.add_zero'] at hx598_0)
  replace hx598_0 := (HB.out.cell (World.block_lt_of_cell? w _ hx598_0)).trans hx598_0
  replace p598 := eq_true p598
  replace q598 := eq_true q598
  refine start_ (n := 9) (S := fun w' => w'.cell? ⟨gb596, 0, none⟩ = some (.slice (some ad598) l0.length c0) ∧ w'.cell? ad598 = some (.string (rdOf ByteArray.empty l0 0))) (ds := []) (M_ 0 9) (by kernel_rfl) rfl rfl ⟨(blk_cell BK596.out 0).trans rfl, ((HB.out.cell (World.block_lt_of_cell? w _ hw598_0)).trans hw598_0)⟩ (fun hHeld => ?_); refine with_tabW impl_skewScan.tab1 impl_skewScan.bits1 (fun HT_ HW_ => ?_)
  generalize w6.drew = w7 at BK596 BK597 HB hx598_0 hHeld ⊢
  refine pu_ 6 11 (N_ 9 64) ?_
  refine tk2_ 0 5 (N_ 9 65) hHeld ?_
  refine pu_ 1 6 (N_ 9 67) ?_
  refine tk2_ 2 7 (N_ 9 71) hHeld ?_
  refine pu_ 3 8 (N_ 9 79) ?_
  refine tk2_ 4 9 (N_ 9 95) hHeld ?_
  refine pu_ 5 10 (M_ 7 2) ?_
  refine one_ (i := 7) (N := some 12) (M_ 8 1) rfl rfl (one_of HT_.out (by kernel_rfl)) (by decide) (fun K hK => ?_)
  refine goes_ Try.func48 (by kernel_rfl) rfl #[.int .i64 (l0.length : Int), .int .i64 ((rdOf ByteArray.empty l0 0).size : Int), .func (.func 94) #[] #[.pointer (some ⟨gb597, 0, none⟩), .pointer (some ⟨gb596, 0, none⟩)]] (by rfl) rfl rfl (Z18) ?_
  with_reducible refine (impl_drawnW.calls k (l0.length : Int) ((rdOf ByteArray.empty l0 0).size : Int) 94 Try.f94 #[.pointer (some ⟨gb597, 0, none⟩), .pointer (some ⟨gb596, 0, none⟩)] Try.func94 (by kernel_rfl) rfl (fun a0_ a1_ => impl_skewScan_1.f a0_ a1_ a1 l0) t599 _ ?side1 A4.out).mono ?_
  (case side1 => intro a0_ a1_ r_ W_ hW_ h_; (try simp only [List.append_toArray, List.cons_append, List.nil_append]); exact (impl_skewScan_1.calls a0_ a1_ gb597 a1 gb596 _ _ l0 r_ W_ (Kd.C_below (Z13 HR0.out) hW_) HC0.out (blk_below (g := gb597) (o := .cells #[.int .i64 a1] 3 (0, 0)) (Z4 BK597.out) hW_) (blk_below (g := gb596) (o := .cells #[.slice (some ad598) l0.length c0] 24 (0, 0)) (Z4 BK596.out) hW_) NB597_596.out NB596_597.out h_).mono (fun e_ w_ h2_ => ⟨h2_.1, h2_.2.below⟩))
  rintro e w8 ⟨v600, rfl, ho0, hb⟩
  refine ⟨_, rfl, ?_⟩
  refine k4_ (Kd.R_lower ho0 (below_size (Z73))) (blk_below (g := gb596) (o := .cells #[.slice (some ad598) l0.length c0] 24 (0, 0)) (Z4 BK596.out) hb) (blk_below (g := gb597) (o := .cells #[.int .i64 a1] 3 (0, 0)) (Z4 BK597.out) hb) (below_step (Z73) hb) ?_
  clear BK596 BK597 HB
  intro HO601 BK596 BK597 HB
  (try clear hb)
  (try clear hb2)
  (try clear hk)
  (try clear hi)
  (try clear ho0)
  refine hK.out _ _ ⟨(blk_cell BK596.out 0).trans rfl, ((HB.out.cell (World.block_lt_of_cell? w _ hw598_0)).trans hw598_0)⟩ (fun hHeld => ?_)
  clear hK K
  refine norm_ (a' := ?_) ?_ ?_
  rotate_left
  ·show Act.put _ (some 12) _ = _
   simp only [Act.put, List.setIfInBounds_toArray, List.set_cons_zero, List.set_cons_succ, i64_w, i32_w]
   rfl
  refine pu_ 8 4 (M_ 9 0) ?_
  refine done_ (done_of HT_.out (by kernel_rfl)) ?_
  try go_wp2
  go_ret
  exact ⟨_, Z11, Z1 HO601.out, Z73⟩
 rw [if_neg c3] at H
 exact absurd H (by simp)

/-! ### impl_BestSkew_1: function 62 -/
def impl_BestSkew_1.f (k : Nat) (a0 : Int) (l1 : List ByteArray) (l2 : List ByteArray) : Option (Int) := (impl_skewScan.f k l1 a0).bind fun t604 => ((impl_scanFaults.f k t604 l2).bind fun t607 => (some t607))
theorem impl_BestSkew_1.mono : ∀ a0 a1 a2 k, LeO (impl_BestSkew_1.f k a0 a1 a2) (impl_BestSkew_1.f (k + 1) a0 a1 a2) := by
 intro a0 a1 a2 k
 unfold impl_BestSkew_1.f
 exact mo16_
set_option maxHeartbeats 8000000 in
set_option maxRecDepth 100000 in
theorem impl_BestSkew_1.calls (k : Nat) (a0 : Int) (p1 : Nat) (A1 : Option Addr) (c1 : Nat) (l1 : List ByteArray) (p2 : Nat) (A2 : Option Addr) (c2 : Nat) (l2 : List ByteArray) (r : Int) (w : World) (hr1 : Kd.C Kd.string w A1 l1.length l1) (hc1 : l1.length ≤ c1) (hr2 : Kd.C Kd.string w A2 l2.length l2) (hc2 : l2.length ≤ c2) (hb1 : w.heap[p1]? = some (.cells #[.slice A1 l1.length c1] 24 (0, 0))) (hb2 : w.heap[p2]? = some (.cells #[.slice A2 l2.length c2] 24 (0, 0))) (hn1_2 : p1 ≠ p2) (hn2_1 : p2 ≠ p1) (h : impl_BestSkew_1.f k a0 l1 l2 = some r) :
  Calls Try.prog 62 #[.int .i64 a0, .pointer (some ⟨p1, 0, none⟩), .pointer (some ⟨p2, 0, none⟩)] w fun e w' => e = .returned (.int .i64 r) ∧ Below w.heap.size w w' := by
 have hu24 := Try.underlying24
 have HR1 := Aside0.mk hr1
 have HC1 := Aside0.mk hc1
 clear hr1 hc1
 have HR2 := Aside0.mk hr2
 have HC2 := Aside0.mk hc2
 clear hr2 hc2
 have HB := Aside0.mk (Below.refl w.heap.size w)
 have BK602 := Aside0.mk hb1
 clear hb1
 have BK603 := Aside0.mk hb2
 clear hb2
 have NB602_603 := Aside0.mk hn1_2
 clear hn1_2
 have NB603_602 := Aside0.mk hn2_1
 clear hn2_1
 have H : ((impl_skewScan.f k l1 a0).bind fun t604 => ((impl_scanFaults.f k t604 l2).bind fun t607 => (some t607))) = some r := h
 clear h
 replace H := Option.bind_eq_some_iff.mp H
 obtain ⟨t604, A40, H⟩ := H
 (try dsimp only at H)
 have A4 := Aside0.mk A40
 clear A40
 replace H := Option.bind_eq_some_iff.mp H
 obtain ⟨t607, A50, H⟩ := H
 replace H : (some t607) = some r := H
 have A5 := Aside0.mk A50
 clear A50
 obtain rfl := Option.some.inj H
 go_enter Try.func62, Try.ntmps62
 try go_wp2
 refine k3_ (blk_drew BK602.out) (blk_drew BK603.out) (below_drew1 HB.out) ?_
 clear BK602 BK603 HB
 intro BK602 BK603 HB
 refine start_ (n := 6) (S := fun w' => w'.cell? ⟨p1, 0, none⟩ = some (.slice A1 l1.length c1) ∧ w'.cell? ⟨p2, 0, none⟩ = some (.slice A2 l2.length c2)) (ds := []) (M_ 0 6) (by kernel_rfl) rfl rfl ⟨(blk_cell BK602.out 0).trans rfl, (blk_cell BK603.out 0).trans rfl⟩ (fun hHeld => ?_)
 generalize w.drew = w6 at BK602 BK603 HB hHeld ⊢
 refine pure_ (i := 1) (N := some 6) (v := ?_) (a' := ?_) (N_ 6 2) rfl rfl (by kernel_rfl) (fun _ _ _ h => h) (Or.inl ⟨by rfl, ?_⟩) ?_ ?_
 rotate_left
 ·intro w'
  go_simp
  with_reducible rfl
 rotate_left
 ·exact ka_
 refine take_ (i := 0) (N := some 5) (v := ?_) (a' := ?_) (M_ 2 4) rfl rfl (by kernel_rfl) (fun _ _ _ h => h) (Or.inl ⟨by rfl, ?_⟩) hHeld ?_ ?_
 rotate_left
 ·rintro w' ⟨s0, s1⟩
  go_simp
  with_reducible rfl
 rotate_left
 ·exact ka_
 refine take_ (i := 3) (N := some 8) (v := ?_) (a' := ?_) (N_ 6 11) rfl rfl (by kernel_rfl) (fun _ _ _ h => h) (Or.inl ⟨by rfl, ?_⟩) hHeld ?_ ?_
 rotate_left
 ·rintro w' ⟨s0, s1⟩
  go_simp
  with_reducible rfl
 rotate_left
 ·exact ka_
 refine one_ (i := 2) (N := some 7) (M_ 4 2) rfl rfl (by kernel_rfl) (by decide) (fun K hK => ?_)
 refine goes_ Try.func63 (by kernel_rfl) rfl #[.slice A1 l1.length c1, .int .i64 a0] (by rfl) rfl rfl (Z18) ?_
 with_reducible refine (impl_skewScan.calls k _ _ l1 a0 t604 _ ?side1 ?side2 A4.out).mono ?_
 (case side1 => exact Z13 HR1.out)
 (case side2 => exact HC1.out)
 rintro e w7 ⟨v605, rfl, ho0, hb⟩
 refine ⟨_, rfl, ?_⟩
 refine k4_ (Kd.R_lower ho0 (below_size (Z74))) (blk_below (g := p1) (o := .cells #[.slice A1 l1.length c1] 24 (0, 0)) (Z4 BK602.out) hb) (blk_below (g := p2) (o := .cells #[.slice A2 l2.length c2] 24 (0, 0)) (Z4 BK603.out) hb) (below_step (Z74) hb) ?_
 clear BK602 BK603 HB
 intro HO606 BK602 BK603 HB
 (try clear hb)
 (try clear hb2)
 (try clear hk)
 (try clear hi)
 (try clear ho0)
 obtain ⟨Ao8, co8, eo8⟩ := Kd.R_slice HO606.out
 (first | subst eo8 | (injection eo8 with f1_ f2_ f3_; have f4_ := f1_.symm; have f5_ := f3_.symm; clear f1_ f2_ f3_; subst f4_; subst f5_))
 refine hK.out _ _ ⟨(blk_cell BK602.out 0).trans rfl, (blk_cell BK603.out 0).trans rfl⟩ (fun hHeld => ?_)
 clear hK K
 refine norm_ (a' := ?_) ?_ ?_
 rotate_left
 ·show Act.put _ (some 7) _ = _
  simp only [Act.put, List.setIfInBounds_toArray, List.set_cons_zero, List.set_cons_succ, i64_w, i32_w]
  rfl
 refine one_ (i := 4) (N := some 9) (M_ 5 1) rfl rfl (by kernel_rfl) (by decide) (fun K hK => ?_)
 refine goes_ Try.func55 (by kernel_rfl) rfl #[.slice Ao8 t604.length co8, .slice A2 l2.length c2] (by rfl) rfl rfl (Z18) ?_
 with_reducible refine (impl_scanFaults.calls k _ _ t604 _ _ l2 t607 _ ?side1 ?side2 ?side3 ?side4 A5.out).mono ?_
 (case side1 => exact Z5 HO606.out)
 (case side2 => exact (Kd.R_reads' HO606.out).2.1)
 (case side3 => exact Z13 HR2.out)
 (case side4 => exact HC2.out)
 rintro e w' ⟨rfl, ⟨nd, rfl⟩⟩
 refine ⟨_, rfl, ?_⟩
 refine hK.out _ _ ⟨(blk_cell BK602.out 0).trans rfl, (blk_cell BK603.out 0).trans rfl⟩ (fun hHeld => ?_)
 clear hK K
 refine norm_ (a' := ?_) ?_ ?_
 rotate_left
 ·show Act.put _ (some 9) _ = _
  simp only [Act.put, List.setIfInBounds_toArray, List.set_cons_zero, List.set_cons_succ, i64_w, i32_w]
  rfl
 refine pure_ (i := 5) (N := some 4) (v := ?_) (a' := ?_) (M_ 6 0) rfl rfl (by kernel_rfl) (fun _ _ _ h => h) (Or.inl ⟨by rfl, ?_⟩) ?_ ?_
 rotate_left
 ·intro w'
  go_simp
  with_reducible rfl
 rotate_left
 ·exact ka_
 refine done_ (by kernel_rfl) ?_
 try go_wp2
 go_ret
 exact ⟨Z11, Z74⟩

/-! ### impl_BestSkew: function 17 -/
def impl_BestSkew.f (k : Nat) (l0 : List ByteArray) (l1 : List ByteArray) : Option (Int × Int × Bool) := (impl_sameSize.f k l0 l1).bind fun t610 => (if t610 = true then ((impl_bestByW.f k 10 (fun a0_ => impl_BestSkew_1.f k a0_ l0 l1)).bind fun bt611 => (some (bt611.1, bt611.2, true))) else (some (0, 0, false)))
theorem impl_BestSkew.mono : ∀ a0 a1 k, LeO (impl_BestSkew.f k a0 a1) (impl_BestSkew.f (k + 1) a0 a1) := by
 intro a0 a1 k
 unfold impl_BestSkew.f
 repeat' first
   | (with_reducible exact impl_BestSkew_1.mono _ _ _ _)
   | (with_reducible exact impl_bestByW.mono _ _ _)
   | (with_reducible exact impl_sameSize.mono _ _ _)
   | (with_reducible exact impl_bestByW.mono2 _ _ (fun _ => impl_BestSkew_1.mono _ _ _ _) _ _)
   | (with_reducible exact LeO.refl _)
   | (with_reducible exact LeO.none _)
   | (with_reducible refine LeO.ite ?_ ?_)
   | (with_reducible refine LeO.bind ?_ (fun _ => ?_))
   | exact impl_BestSkew_1.mono _ _ _ _
   | exact impl_bestByW.mono _ _ _
   | exact impl_sameSize.mono _ _ _
   | exact LeO.none _
   | refine LeO.ite ?_ ?_
   | refine LeO.bind ?_ (fun _ => ?_)
set_option maxHeartbeats 8000000 in
set_option maxRecDepth 100000 in
theorem impl_BestSkew.calls (k : Nat) (A0 : Option Addr) (c0 : Nat) (l0 : List ByteArray) (A1 : Option Addr) (c1 : Nat) (l1 : List ByteArray) (r1 : Int) (r2 : Int) (r3 : Bool) (w : World) (hr0 : Kd.C Kd.string w A0 l0.length l0) (hc0 : l0.length ≤ c0) (hr1 : Kd.C Kd.string w A1 l1.length l1) (hc1 : l1.length ≤ c1) (h : impl_BestSkew.f k l0 l1 = some (r1, r2, r3)) :
  Calls Try.prog 17 #[.slice A0 l0.length c0, .slice A1 l1.length c1] w fun e w' => e = .returned (.tuple #[.int .i64 r1, .int .i64 r2, .bool r3]) ∧ Below w.heap.size w w' := by
 have hu24 := Try.underlying24
 have HR0 := Aside0.mk hr0
 have HC0 := Aside0.mk hc0
 clear hr0 hc0
 have HR1 := Aside0.mk hr1
 have HC1 := Aside0.mk hc1
 clear hr1 hc1
 have HB := Aside0.mk (Below.refl w.heap.size w)
 have H : ((impl_sameSize.f k l0 l1).bind fun t610 => (if t610 = true then ((impl_bestByW.f k 10 (fun a0_ => impl_BestSkew_1.f k a0_ l0 l1)).bind fun bt611 => (some (bt611.1, bt611.2, true))) else (some (0, 0, false)))) = some (r1, r2, r3) := h
 clear h
 replace H := Option.bind_eq_some_iff.mp H
 obtain ⟨t610, A30, H⟩ := H
 (try dsimp only at H)
 have A3 := Aside0.mk A30
 clear A30
 by_cases c4 : t610 = true
 ·subst c4
  rw [if_pos rfl] at H
  replace H := Option.bind_eq_some_iff.mp H
  obtain ⟨⟨t611, t612⟩, A50, H⟩ := H
  (try dsimp only at H)
  have A5 := Aside0.mk A50
  clear A50
  simp only [Option.some.injEq, Prod.mk.injEq] at H
  obtain ⟨rfl, rfl, rfl⟩ := H
  go_enter Try.func17, Try.ntmps17
  go_wp2_with (first | ((with_reducible refine gate_dst (N := 2) rfl ?_); refine bv_ 2 24 #[.slice A0 l0.length c0] ?_; intro gb608 hg w6 hbox hb; refine k4_ (below_step (Z2) hb) (hbox) ((Z34 : w.heap.size ≤ gb608)) ((Z34 : w.heap.size ≤ gb608)) ?_; clear HB; intro HB BK608 GW608 GE608; clear hb hbox hg) | ((with_reducible refine gate_dst (N := 3) rfl ?_); refine bv_ 3 24 #[.slice A1 l1.length c1] ?_; intro gb609 hg w7 hbox hb; refine k7_ (blk_below (g := gb608) (o := .cells #[.slice A0 l0.length c0] 24 (0, 0)) (Z4 BK608.out) hb) (below_step (Z51) hb) (hbox) ((by rw [hg]; exact (below_size (Z51)) : w.heap.size ≤ gb609)) ((by rw [hg]; exact (below_size (Z51)) : w.heap.size ≤ gb609)) ((Z101 : gb608 ≠ gb609)) ((Z102 : gb609 ≠ gb608)) ?_; clear BK608 HB; intro BK608 HB BK609 GW609 GE609 NB608_609 NB609_608; clear hb hbox hg; have hnb8 := NB608_609.out; have hnc8 := NB609_608.out; obtain ⟨hcz9_0, hfz9_0⟩ := bx1_ (w := w7) BK608.out; obtain ⟨hcz10_0, hfz10_0⟩ := bx1_ (w := w7) BK609.out) | ((with_reducible refine gate_callee (f := 54) rfl ?_); refine gl_ 11 Try.func54 #[.slice A0 l0.length c0, .slice A1 l1.length c1] ?_; (with_reducible refine (impl_sameSize.calls k _ _ l0 _ _ l1 true _ ?_ ?_ ?_ ?_ A3.out).mono ?_); exact Z13 HR0.out; exact HC0.out; exact Z13 HR1.out; exact HC1.out; rintro e w' ⟨rfl, ⟨nd, rfl⟩⟩; refine ⟨_, rfl, ?_⟩) | ((with_reducible refine gate_callee (f := 61) rfl ?_); refine gl_ 15 Try.func61 #[.int .i64 10, .func (.func 62) #[] #[.pointer (some ⟨gb608, 0, none⟩), .pointer (some ⟨gb609, 0, none⟩)]] ?_; (with_reducible refine (impl_bestByW.calls k 10 62 Try.f62 #[.pointer (some ⟨gb608, 0, none⟩), .pointer (some ⟨gb609, 0, none⟩)] Try.func62 (by kernel_rfl) rfl (fun a0_ => impl_BestSkew_1.f k a0_ l0 l1) t611 t612 _ ?_ A5.out).mono ?_); exact (by intro a0_ r_ W_ hW_ h_; (try simp only [List.append_toArray, List.cons_append, List.nil_append]); exact (impl_BestSkew_1.calls k a0_ gb608 _ _ l0 gb609 _ _ l1 r_ W_ (Kd.C_below (Z98 HR0.out) hW_) HC0.out (Kd.C_below (Z98 HR1.out) hW_) HC1.out (blk_below (g := gb608) (o := .cells #[.slice A0 l0.length c0] 24 (0, 0)) (Z4 BK608.out) hW_) (blk_below (g := gb609) (o := .cells #[.slice A1 l1.length c1] 24 (0, 0)) (Z4 BK609.out) hW_) NB608_609.out NB609_608.out h_).mono (fun e_ w_ h2_ => h2_)); rintro e w11 ⟨rfl, hb⟩; refine ⟨_, rfl, ?_⟩; refine k3_ (blk_below (g := gb608) (o := .cells #[.slice A0 l0.length c0] 24 (0, 0)) (Z4 BK608.out) hb) (blk_below (g := gb609) (o := .cells #[.slice A1 l1.length c1] 24 (0, 0)) (Z4 BK609.out) hb) (below_step (Z53) hb) ?_; clear BK608 BK609 HB; intro BK608 BK609 HB; (try clear hb)))
  go_ret3
  exact ⟨Z11, Z53⟩
 replace c4 := Bool.eq_false_iff.mpr c4
 subst c4
 rw [if_neg (show ¬ (false = true) by decide)] at H
 simp only [Option.some.injEq, Prod.mk.injEq] at H
 obtain ⟨rfl, rfl, rfl⟩ := H
 go_enter Try.func17, Try.ntmps17
 go_wp2_with (first | ((with_reducible refine gate_dst (N := 2) rfl ?_); refine bv_ 2 24 #[.slice A0 l0.length c0] ?_; intro gb608 hg w12 hbox hb; refine k4_ (below_step (Z2) hb) (hbox) ((Z34 : w.heap.size ≤ gb608)) ((Z34 : w.heap.size ≤ gb608)) ?_; clear HB; intro HB BK608 GW608 GE608; clear hb hbox hg) | ((with_reducible refine gate_dst (N := 3) rfl ?_); refine bv_ 3 24 #[.slice A1 l1.length c1] ?_; intro gb609 hg w13 hbox hb; refine k7_ (blk_below (g := gb608) (o := .cells #[.slice A0 l0.length c0] 24 (0, 0)) (Z4 BK608.out) hb) (below_step (Z51) hb) (hbox) ((by rw [hg]; exact (below_size (Z51)) : w.heap.size ≤ gb609)) ((by rw [hg]; exact (below_size (Z51)) : w.heap.size ≤ gb609)) ((Z101 : gb608 ≠ gb609)) ((Z102 : gb609 ≠ gb608)) ?_; clear BK608 HB; intro BK608 HB BK609 GW609 GE609 NB608_609 NB609_608; clear hb hbox hg; have hnb14 := NB608_609.out; have hnc14 := NB609_608.out; obtain ⟨hcz15_0, hfz15_0⟩ := bx1_ (w := w13) BK608.out; obtain ⟨hcz16_0, hfz16_0⟩ := bx1_ (w := w13) BK609.out) | ((with_reducible refine gate_callee (f := 54) rfl ?_); refine gl_ 11 Try.func54 #[.slice A0 l0.length c0, .slice A1 l1.length c1] ?_; (with_reducible refine (impl_sameSize.calls k _ _ l0 _ _ l1 false _ ?_ ?_ ?_ ?_ A3.out).mono ?_); exact Z13 HR0.out; exact HC0.out; exact Z13 HR1.out; exact HC1.out; rintro e w' ⟨rfl, ⟨nd, rfl⟩⟩; refine ⟨_, rfl, ?_⟩))
 go_ret3
 exact ⟨Z11, Z53⟩

end Go.Proofs.Ytmnnmddfmmaohaa.PFnStains
