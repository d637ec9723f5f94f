-- written by a program of this session: the kit's print, with outer functions of the session's own (wip/ext)
import Derived.Test.YtmnnmddfmmaohaaPFnStainsx0
import Derived.Test.YtmnnmddfmmaohaaPFnStainsx1
namespace Go.Proofs.Ytmnnmddfmmaohaa.PFnStains
open Go.RowKit Go.Proofs.YtmnnmddfmmaohaaW.PrintWords Go.Proofs.YtmnnmddfmmaohaaW.PrintLast Go.Proofs.YtmnnmddfmmaohaaW.PrintMore
attribute [local go_sem] max2_int min2_int max_two min_two max_three min_three max_four min_four   -- for this text's walks alone
set_option linter.unusedVariables false
set_option linter.unusedSimpArgs false
theorem mo2_ {p : Prop} (h : p := by repeat' first | (with_reducible first | apply ih0 | apply ih0 | apply ih1 | apply ih1 | apply spec_l1Has.mono | apply spec_l1Has.mono | apply spec_shOpen.mono | apply spec_shOpen.mono | exact LeO.refl _ | exact LeO.none _ | refine LeO.ite ?_ ?_ | refine LeO.bind ?_ (fun _ => ?_)) | exact LeO.none _ | refine LeO.ite ?_ ?_ | refine LeO.bind ?_ (fun _ => ?_)) : p := h

/-! ### spec_scMake: function 86 -/
mutual
def spec_scMake.l0 : Nat → List (S90) → Int → Int → List ByteArray → Int → Option (List ByteArray)
 | 0, _, _, _, _, _ => none
 | k + 1, x0, x1, x2, x7, x8 => if x8 < x2 then ((spec_shOpen.f k x0 x8).bind fun t160 => (spec_scMake.l1 k x0 x1 x2 x7 x8 t160 (⟨#[]⟩ : ByteArray) 0)) else (some x7)
def spec_scMake.l1 : Nat → List (S90) → Int → Int → List ByteArray → Int → List Int → ByteArray → Int → Option (List ByteArray)
 | 0, _, _, _, _, _, _, _, _ => none
 | k + 1, x0, x1, x2, x7, x8, x9, x10, x11 => if x11 < x1 then ((spec_l1Has.f k x9 x11).bind fun t163 => (if t163 = true then (if x10.size + 1 ≤ 9223372036854775807 then (spec_scMake.l1 k x0 x1 x2 x7 x8 x9 (x10 ++ (⟨#[111]⟩ : ByteArray)) (wrap64 (x11 + 1))) else (none)) else (if x10.size + 1 ≤ 9223372036854775807 then (spec_scMake.l1 k x0 x1 x2 x7 x8 x9 (x10 ++ (⟨#[46]⟩ : ByteArray)) (wrap64 (x11 + 1))) else (none)))) else (if x7.length < 8796093022208 then (spec_scMake.l0 k x0 x1 x2 (x7 ++ [x10]) (wrap64 (x8 + 1))) else (none))
end
def spec_scMake.f (k : Nat) (l0 : List (S90)) (a1 : Int) (a2 : Int) : Option (List ByteArray) := spec_scMake.l0 k l0 a1 a2 ([] : List ByteArray) 0
theorem spec_scMake.mono_l : ∀ k, (∀ y0 y1 y2 y3 y4, LeO (spec_scMake.l0 k y0 y1 y2 y3 y4) (spec_scMake.l0 (k + 1) y0 y1 y2 y3 y4)) ∧ (∀ y0 y1 y2 y3 y4 y5 y6 y7, LeO (spec_scMake.l1 k y0 y1 y2 y3 y4 y5 y6 y7) (spec_scMake.l1 (k + 1) y0 y1 y2 y3 y4 y5 y6 y7))
 | 0 => ⟨fun _ _ _ _ _ r h => by simp [spec_scMake.l0] at h, fun _ _ _ _ _ _ _ _ r h => by simp [spec_scMake.l1] at h⟩
 | k + 1 => by
  obtain ⟨ih0, ih1⟩ := spec_scMake.mono_l k
  refine ⟨?_, ?_⟩
  ·intro y0 y1 y2 y3 y4
   unfold spec_scMake.l0
   exact mo2_
  intro y0 y1 y2 y3 y4 y5 y6 y7
  unfold spec_scMake.l1
  exact mo2_
theorem spec_scMake.mono : ∀ a0 a1 a2 k, LeO (spec_scMake.f k a0 a1 a2) (spec_scMake.f (k + 1) a0 a1 a2) := by
 intro a0 a1 a2 k
 obtain ⟨ih0, ih1⟩ := spec_scMake.mono_l k
 unfold spec_scMake.f
 exact mo2_
set_option maxHeartbeats 8000000 in
set_option maxRecDepth 100000 in
theorem spec_scMake.calls (k : Nat) (A0 : Option Addr) (c0 : Nat) (l0 : List (S90)) (a1 : Int) (a2 : Int) (r : List ByteArray) (w : World) (hr0 : Kd.C k90 w A0 l0.length l0) (hc0 : l0.length ≤ c0) (h : spec_scMake.f k l0 a1 a2 = some r) :
  Calls Try.prog 86 #[.slice A0 l0.length c0, .int .i64 a1, .int .i64 a2] w fun e w' => ∃ v0_ : Value, e = .returned (v0_) ∧ Kd.R Kd.string 9 w' w.heap.size (fun _ => True) v0_ r ∧ Below w.heap.size w w' := by
 have HR0 := Aside0.mk hr0
 have HC0 := Aside0.mk hc0
 clear hr0 hc0
 have HB := Aside0.mk (Below.refl w.heap.size w)
 have H : (spec_scMake.l0 k l0 a1 a2 ([] : List ByteArray) 0) = some r := h
 clear h
 have H' := Aside0.mk H
 clear H
 go_enter Try.func86, Try.ntmps86
 go_wp2
 go_loopg [7, 8] k (fun kq v7 v8 w' => ∃ (x7_1 : List ByteArray) (x8_1 : Int), v8 = .int .i64 x8_1 ∧ Aside0 (spec_scMake.l0 kq l0 a1 a2 x7_1 x8_1 = some r) ∧ Aside0 (kq ≤ k) ∧ Aside0 (Kd.R Kd.string 9 w' w.heap.size (fun _ => True) v7 x7_1) ∧ Aside0 (Below w.heap.size w w'))
 case atStart => exact ⟨(([] : List ByteArray)), (0), (Z10), H', ⟨Nat.le_refl _⟩, ⟨Z21⟩, ⟨Z2⟩⟩
 case round =>
  clear H'
  (try clear p2)
  obtain ⟨x7_1, x8_1, rfl, HA, HK1, HO_7, HB⟩ := hrel
  cases gk with
  | zero => exact absurd HA.out (by simp [spec_scMake.l0])
  | succ k1 =>
   have H := HA.out
   clear HA
   simp only [spec_scMake.l0] at H
   by_cases c4 : x8_1 < a2
   ·rw [if_pos c4] at H
    have c4b0 : decide (x8_1 < a2) = true := decide_eq_true c4
    clear c4
    replace H := Option.bind_eq_some_iff.mp H
    obtain ⟨t160, A50, H⟩ := H
    (try dsimp only at H)
    have A5 := Aside0.mk A50
    clear A50
    have H' := Aside0.mk H
    clear H
    go_wp2_with (first | ((with_reducible refine gate_callee (f := 110) rfl ?_); refine gl_ 19 Try.func110 #[.slice A0 l0.length c0, .int .i64 x8_1] ?_; (with_reducible refine (spec_shOpen.calls k1 _ _ l0 x8_1 t160 _ ?_ ?_ A5.out).mono ?_); exact Z13 HR0.out; exact HC0.out; rintro e w6 ⟨v161, rfl, ho0, hb⟩; refine ⟨_, rfl, ?_⟩; refine k3_ (Kd.R_below (Z1 HO_7.out) hb) (Kd.R_lower ho0 (below_size (Z2))) (below_step (Z2) hb) ?_; clear HO_7 HB; intro HO_7 HO162 HB; (try clear hb ho0)))
    go_loopg [10, 11] k1 (fun kq v10 v11 w' => ∃ (x10_2 : ByteArray) (x11_2 : Int), v10 = .string x10_2 ∧ v11 = .int .i64 x11_2 ∧ Aside0 (spec_scMake.l1 kq l0 a1 a2 x7_1 x8_1 t160 x10_2 x11_2 = some r) ∧ Aside0 (kq ≤ k1) ∧ Aside0 (Kd.R Kd.string 9 w' w.heap.size (fun _ => True) u7 x7_1) ∧ Aside0 (Kd.R (Kd.int .i64) 3 w' w.heap.size (fun _ => True) v161 t160) ∧ Aside0 (Below w.heap.size w w'))
    case atStart => exact ⟨((⟨#[]⟩ : ByteArray)), (0), (Z10), (Z10), H', ⟨Nat.le_refl _⟩, ⟨Z1 HO_7.out⟩, ⟨Z1 HO162.out⟩, ⟨Z2⟩⟩
    case round =>
     clear H'
     (try clear c1); (try clear c4); (try clear c4b0)
     obtain ⟨x10_2, x11_2, rfl, rfl, HA, HK2, HO_7, HO_9, HB⟩ := hrel
     cases gk with
     | zero => exact absurd HA.out (by simp [spec_scMake.l1])
     | succ k2 =>
      have H := HA.out
      clear HA
      simp only [spec_scMake.l1] at H
      by_cases c7 : x11_2 < a1
      ·rw [if_pos c7] at H
       have c7b0 : decide (x11_2 < a1) = true := decide_eq_true c7
       clear c7
       replace H := Option.bind_eq_some_iff.mp H
       obtain ⟨t163, A80, H⟩ := H
       (try dsimp only at H)
       have A8 := Aside0.mk A80
       clear A80
       by_cases c9 : t163 = true
       ·subst c9
        rw [if_pos rfl] at H
        by_cases c10 : x10_2.size + 1 ≤ 9223372036854775807
        ·rw [if_pos c10] at H
         have c10b0 := eq_true c10
         have c10b1 : decide (x10_2.size + 1 ≤ 9223372036854775807) = true := decide_eq_true c10
         try have c10b2 : (9223372036854775807 < x10_2.size + 1) = False := eq_false (Nat.not_lt.2 c10)
         have H' := Aside0.mk H
         clear H
         obtain ⟨Ao11, co11, eo11⟩ := Kd.R_slice HO_9.out
         subst eo11
         go_wp2_with (first | ((with_reducible refine gate_callee (f := 111) rfl ?_); refine gl_ 27 Try.func111 #[.slice Ao11 t160.length co11, .int .i64 x11_2] ?_; (with_reducible refine (spec_l1Has.calls k2 _ _ t160 x11_2 true _ ?_ ?_ A8.out).mono ?_); exact Z5 HO_9.out; exact (Kd.R_reads' HO_9.out).2.1; rintro e w' ⟨rfl, ⟨nd, rfl⟩⟩; refine ⟨_, rfl, ?_⟩))
         go_roundg k2
         case measure => have := HK1.out; have := HK2.out; omega
         case rel => exact ⟨(x10_2 ++ (⟨#[111]⟩ : ByteArray)), (wrap64 (x11_2 + 1)), (Z10), (Z10), H', ⟨Z47⟩, ⟨Z1 HO_7.out⟩, ⟨Z1 HO_9.out⟩, ⟨Z2⟩⟩
        rw [if_neg c10] at H
        exact absurd H (by simp)
       replace c9 := Bool.eq_false_iff.mpr c9
       subst c9
       rw [if_neg (show ¬ (false = true) by decide)] at H
       by_cases c12 : x10_2.size + 1 ≤ 9223372036854775807
       ·rw [if_pos c12] at H
        have c12b0 := eq_true c12
        have c12b1 : decide (x10_2.size + 1 ≤ 9223372036854775807) = true := decide_eq_true c12
        try have c12b2 : (9223372036854775807 < x10_2.size + 1) = False := eq_false (Nat.not_lt.2 c12)
        have H' := Aside0.mk H
        clear H
        obtain ⟨Ao13, co13, eo13⟩ := Kd.R_slice HO_9.out
        subst eo13
        go_wp2_with (first | ((with_reducible refine gate_callee (f := 111) rfl ?_); refine gl_ 27 Try.func111 #[.slice Ao13 t160.length co13, .int .i64 x11_2] ?_; (with_reducible refine (spec_l1Has.calls k2 _ _ t160 x11_2 false _ ?_ ?_ A8.out).mono ?_); exact Z5 HO_9.out; exact (Kd.R_reads' HO_9.out).2.1; rintro e w' ⟨rfl, ⟨nd, rfl⟩⟩; refine ⟨_, rfl, ?_⟩))
        go_roundg k2
        case measure => have := HK1.out; have := HK2.out; omega
        case rel => exact ⟨(x10_2 ++ (⟨#[46]⟩ : ByteArray)), (wrap64 (x11_2 + 1)), (Z10), (Z10), H', ⟨Z47⟩, ⟨Z1 HO_7.out⟩, ⟨Z1 HO_9.out⟩, ⟨Z2⟩⟩
       rw [if_neg c12] at H
       exact absurd H (by simp)
      rw [if_neg c7] at H
      have c7b0 : decide (x11_2 < a1) = false := decide_eq_false c7
      clear c7
      by_cases c14 : x7_1.length < 8796093022208
      ·rw [if_pos c14] at H
       have LMc14 := Aside0.mk c14
       clear c14
       obtain ⟨y164, hy164⟩ : ∃ y_ : List ByteArray, y_ = (x7_1 ++ [x10_2]) := ⟨_, rfl⟩
       replace H : (spec_scMake.l0 k2 l0 a1 a2 y164 (wrap64 (x8_1 + 1))) = some r := by first | (rw [hy164]; with_reducible exact H) | (have H2_ := (Option.bind_some _ _).symm.trans H; rw [hy164]; with_reducible exact H2_) | (have H2_ := (Option.bind_some _ _).symm.trans H; with_reducible exact H2_) | with_reducible exact H | (rw [hy164]; exact H) | exact H
       have Ny164 := Aside0.mk hy164
       clear hy164
       have H' := Aside0.mk H
       clear H
       go_wp2_with (first | ((with_reducible refine gate_builtin (b := .append) (xs := #[.tmp 32, .tmp 34]) rfl ?_); at_builtin; refine Kd.R_append Kd.string (w0 := w) w.heap.size rfl (.tmp 32) (.tmp 34) 24 9 (.string ⟨#[]⟩) 16 rfl Try.underlying24 info9 rfl (by decide) (by omega) u7 x7_1 x10_2 [.string x10_2] (fun _ => True) (fun _ => False) rfl rfl ?aP (fun _ hk => hk.elim) ?aF ?aO ?aB ?aS ?aL ?_; (case aP => exact rfl); (case aB => exact Z2); (case aF => exact (fun _ _ => trivial)); (case aO => exact Z1 HO_7.out); (case aS => exact (below_size (Z2))); (case aL => have := LMc14.out; omega); intro v165 w15 ho hb hg hat; rw [← Ny164.out] at ho; refine k3_ (Kd.R_over' (Z1 HO_9.out) (Kd.R_typed (Z1 HO_7.out)) (by decide) hg) (hb) (ho) ?_; clear HO_9 HB HO_7; intro HO_9 HB HO166; clear ho hb hg hat))
       go_roundg k2
       case measure => have := HK1.out; have := HK2.out; omega
       case rel => exact ⟨(y164), (wrap64 (x8_1 + 1)), (Z10), H', ⟨Z47⟩, ⟨Z1 HO166.out⟩, ⟨Z2⟩⟩
      rw [if_neg c14] at H
      exact absurd H (by simp)
   rw [if_neg c4] at H
   have c4b0 : decide (x8_1 < a2) = false := decide_eq_false c4
   clear c4
   obtain rfl := Option.some.inj H
   go_wp2
   go_ret
   exact ⟨_, Z11, Z1 HO_7.out, Z2⟩

/-! ### spec_shHole: function 108 -/
def spec_shHole.f (a0_0 : Int) (a0_1 : Int) (a0_2 : Int) : Option (Bool) := (spec_l1In.f a0_0 0 19).bind fun t168 => (if t168 = true then ((spec_l1In.f a0_1 0 1999).bind fun t169 => (if t169 = true then ((spec_l1In.f a0_2 (wrap64 (a0_1 + 1)) 2000).bind fun t170 => (some t170)) else (some false))) else (some false))
set_option maxHeartbeats 8000000 in
set_option maxRecDepth 100000 in
theorem spec_shHole.calls (a0_0 : Int) (a0_1 : Int) (a0_2 : Int) (r : Bool) (w : World) (h : spec_shHole.f a0_0 a0_1 a0_2 = some r) :
  Calls Try.prog 108 #[.agg #[.int .i64 a0_0, .int .i64 a0_1, .int .i64 a0_2]] w fun e w' => e = .returned (.bool r) ∧ Below w.heap.size w w' := by
 have hu90 := Try.underlying90
 have HB := Aside0.mk (Below.refl w.heap.size w)
 have H : ((spec_l1In.f a0_0 0 19).bind fun t168 => (if t168 = true then ((spec_l1In.f a0_1 0 1999).bind fun t169 => (if t169 = true then ((spec_l1In.f a0_2 (wrap64 (a0_1 + 1)) 2000).bind fun t170 => (some t170)) else (some false))) else (some false))) = some r := h
 clear h
 replace H := Option.bind_eq_some_iff.mp H
 obtain ⟨t168, A20, H⟩ := H
 (try dsimp only at H)
 have A2 := Aside0.mk A20
 clear A20
 by_cases c3 : t168 = true
 ·subst c3
  rw [if_pos rfl] at H
  replace H := Option.bind_eq_some_iff.mp H
  obtain ⟨t169, A40, H⟩ := H
  (try dsimp only at H)
  have A4 := Aside0.mk A40
  clear A40
  by_cases c5 : t169 = true
  ·subst c5
   rw [if_pos rfl] at H
   replace H := Option.bind_eq_some_iff.mp H
   obtain ⟨t170, A60, H⟩ := H
   replace H : (some t170) = some r := H
   have A6 := Aside0.mk A60
   clear A60
   obtain rfl := Option.some.inj H
   go_enter Try.func108, Try.ntmps108
   go_wp2_with (first | ((with_reducible refine gate_dst (N := 1) rfl ?_); refine bv_ 1 90 #[.int .i64 a0_0, .int .i64 a0_1, .int .i64 a0_2] ?_; intro gb167 hg w7 hbox hb; refine k4_ (below_step (Z2) hb) (hbox) ((Z34 : w.heap.size ≤ gb167)) ((Z34 : w.heap.size ≤ gb167)) ?_; clear HB; intro HB BK167 GW167 GE167; clear hb hbox hg; obtain ⟨hcz8_0, hcz8_1, hcz8_2, hfz8_0, hfz8_1, hfz8_2⟩ := bx3_ (w := w7) BK167.out) | ((with_reducible refine gate_callee (f := 52) rfl ?_); refine gl_ 5 Try.func52 #[.int .i64 a0_0, .int .i64 0, .int .i64 19] ?_; (with_reducible refine (spec_l1In.calls a0_0 0 19 true _ A2.out).mono ?_); rintro e w' ⟨rfl, ⟨nd, rfl⟩⟩; refine ⟨_, rfl, ?_⟩) | (go_at_call 52; (with_reducible refine (spec_l1In.calls a0_1 0 1999 true _ A4.out).mono ?_); rintro e w' ⟨rfl, ⟨nd, rfl⟩⟩) | (go_at_call 52; (with_reducible refine (spec_l1In.calls a0_2 (wrap64 (a0_1 + 1)) 2000 t170 _ A6.out).mono ?_); rintro e w' ⟨rfl, ⟨nd, rfl⟩⟩))
   go_ret
   exact ⟨Z11, Z82⟩
  replace c5 := Bool.eq_false_iff.mpr c5
  subst c5
  rw [if_neg (show ¬ (false = true) by decide)] at H
  obtain rfl := Option.some.inj H
  go_enter Try.func108, Try.ntmps108
  go_wp2_with (first | ((with_reducible refine gate_dst (N := 1) rfl ?_); refine bv_ 1 90 #[.int .i64 a0_0, .int .i64 a0_1, .int .i64 a0_2] ?_; intro gb167 hg w9 hbox hb; refine k4_ (below_step (Z2) hb) (hbox) ((Z34 : w.heap.size ≤ gb167)) ((Z34 : w.heap.size ≤ gb167)) ?_; clear HB; intro HB BK167 GW167 GE167; clear hb hbox hg; obtain ⟨hcz10_0, hcz10_1, hcz10_2, hfz10_0, hfz10_1, hfz10_2⟩ := bx3_ (w := w9) BK167.out) | ((with_reducible refine gate_callee (f := 52) rfl ?_); refine gl_ 5 Try.func52 #[.int .i64 a0_0, .int .i64 0, .int .i64 19] ?_; (with_reducible refine (spec_l1In.calls a0_0 0 19 true _ A2.out).mono ?_); rintro e w' ⟨rfl, ⟨nd, rfl⟩⟩; refine ⟨_, rfl, ?_⟩) | (go_at_call 52; (with_reducible refine (spec_l1In.calls a0_1 0 1999 false _ A4.out).mono ?_); rintro e w' ⟨rfl, ⟨nd, rfl⟩⟩))
  go_ret
  exact ⟨Z11, Z82⟩
 replace c3 := Bool.eq_false_iff.mpr c3
 subst c3
 rw [if_neg (show ¬ (false = true) by decide)] at H
 obtain rfl := Option.some.inj H
 go_enter Try.func108, Try.ntmps108
 go_wp2_with (first | ((with_reducible refine gate_dst (N := 1) rfl ?_); refine bv_ 1 90 #[.int .i64 a0_0, .int .i64 a0_1, .int .i64 a0_2] ?_; intro gb167 hg w11 hbox hb; refine k4_ (below_step (Z2) hb) (hbox) ((Z34 : w.heap.size ≤ gb167)) ((Z34 : w.heap.size ≤ gb167)) ?_; clear HB; intro HB BK167 GW167 GE167; clear hb hbox hg; obtain ⟨hcz12_0, hcz12_1, hcz12_2, hfz12_0, hfz12_1, hfz12_2⟩ := bx3_ (w := w11) BK167.out) | ((with_reducible refine gate_callee (f := 52) rfl ?_); refine gl_ 5 Try.func52 #[.int .i64 a0_0, .int .i64 0, .int .i64 19] ?_; (with_reducible refine (spec_l1In.calls a0_0 0 19 false _ A2.out).mono ?_); rintro e w' ⟨rfl, ⟨nd, rfl⟩⟩; refine ⟨_, rfl, ?_⟩))
 go_ret
 exact ⟨Z11, Z82⟩

/-! ### spec_shBefore: function 109 -/
def spec_shBefore.f (a0_0 : Int) (a0_1 : Int) (a0_2 : Int) (a1_0 : Int) (a1_1 : Int) (a1_2 : Int) : Option (Bool) := if a0_1 < a1_1 then (some true) else (if a0_1 = a1_1 then (some (decide (a0_0 < a1_0))) else (some false))
set_option maxHeartbeats 8000000 in
set_option maxRecDepth 100000 in
theorem spec_shBefore.calls (a0_0 : Int) (a0_1 : Int) (a0_2 : Int) (a1_0 : Int) (a1_1 : Int) (a1_2 : Int) (r : Bool) (w : World) (h : spec_shBefore.f a0_0 a0_1 a0_2 a1_0 a1_1 a1_2 = some r) :
  Calls Try.prog 109 #[.agg #[.int .i64 a0_0, .int .i64 a0_1, .int .i64 a0_2], .agg #[.int .i64 a1_0, .int .i64 a1_1, .int .i64 a1_2]] w fun e w' => e = .returned (.bool r) ∧ Below w.heap.size w w' := by
 have hu90 := Try.underlying90
 have HB := Aside0.mk (Below.refl w.heap.size w)
 have H : (if a0_1 < a1_1 then (some true) else (if a0_1 = a1_1 then (some (decide (a0_0 < a1_0))) else (some false))) = some r := h
 clear h
 by_cases c3 : a0_1 < a1_1
 ·rw [if_pos c3] at H
  have c3b0 : decide (a0_1 < a1_1) = true := decide_eq_true c3
  clear c3
  obtain rfl := Option.some.inj H
  go_enter Try.func109, Try.ntmps109
  go_wp2_with (first | ((with_reducible refine gate_dst (N := 2) rfl ?_); refine bv_ 2 90 #[.int .i64 a0_0, .int .i64 a0_1, .int .i64 a0_2] ?_; intro gb171 hg w4 hbox hb; refine k4_ (below_step (Z2) hb) (hbox) ((Z34 : w.heap.size ≤ gb171)) ((Z34 : w.heap.size ≤ gb171)) ?_; clear HB; intro HB BK171 GW171 GE171; clear hb hbox hg) | ((with_reducible refine gate_dst (N := 3) rfl ?_); refine bv_ 3 90 #[.int .i64 a1_0, .int .i64 a1_1, .int .i64 a1_2] ?_; intro gb172 hg w5 hbox hb; refine k7_ (blk_below (g := gb171) (o := .cells #[.int .i64 a0_0, .int .i64 a0_1, .int .i64 a0_2] 90 (0, 0)) (Z4 BK171.out) hb) (below_step (Z41) hb) (hbox) ((Z92 : w.heap.size ≤ gb172)) ((Z92 : w.heap.size ≤ gb172)) ((Z85 : gb171 ≠ gb172)) ((Z86 : gb172 ≠ gb171)) ?_; clear BK171 HB; intro BK171 HB BK172 GW172 GE172 NB171_172 NB172_171; clear hb hbox hg; have hnb6 := NB171_172.out; have hnc6 := NB172_171.out; obtain ⟨hcz7_0, hcz7_1, hcz7_2, hfz7_0, hfz7_1, hfz7_2⟩ := bx3_ (w := w5) BK171.out; obtain ⟨hcz8_0, hcz8_1, hcz8_2, hfz8_0, hfz8_1, hfz8_2⟩ := bx3_ (w := w5) BK172.out))
  go_ret
  exact ⟨Z11, Z71⟩
 rw [if_neg c3] at H
 have c3b0 : decide (a0_1 < a1_1) = false := decide_eq_false c3
 clear c3
 by_cases c9 : a0_1 = a1_1
 ·rw [if_pos c9] at H
  have c9b0 : (a0_1 == a1_1) = true := beq_iff_eq.mpr c9
  have c9b1 : (a0_1 != a1_1) = false := bne_eq_false_iff_eq.mpr c9
  clear c9
  obtain rfl := Option.some.inj H
  go_enter Try.func109, Try.ntmps109
  go_wp2_with (first | ((with_reducible refine gate_dst (N := 2) rfl ?_); refine bv_ 2 90 #[.int .i64 a0_0, .int .i64 a0_1, .int .i64 a0_2] ?_; intro gb171 hg w10 hbox hb; refine k4_ (below_step (Z2) hb) (hbox) ((Z34 : w.heap.size ≤ gb171)) ((Z34 : w.heap.size ≤ gb171)) ?_; clear HB; intro HB BK171 GW171 GE171; clear hb hbox hg) | ((with_reducible refine gate_dst (N := 3) rfl ?_); refine bv_ 3 90 #[.int .i64 a1_0, .int .i64 a1_1, .int .i64 a1_2] ?_; intro gb172 hg w11 hbox hb; refine k7_ (blk_below (g := gb171) (o := .cells #[.int .i64 a0_0, .int .i64 a0_1, .int .i64 a0_2] 90 (0, 0)) (Z4 BK171.out) hb) (below_step (Z41) hb) (hbox) ((Z92 : w.heap.size ≤ gb172)) ((Z92 : w.heap.size ≤ gb172)) ((Z85 : gb171 ≠ gb172)) ((Z86 : gb172 ≠ gb171)) ?_; clear BK171 HB; intro BK171 HB BK172 GW172 GE172 NB171_172 NB172_171; clear hb hbox hg; have hnb12 := NB171_172.out; have hnc12 := NB172_171.out; obtain ⟨hcz13_0, hcz13_1, hcz13_2, hfz13_0, hfz13_1, hfz13_2⟩ := bx3_ (w := w11) BK171.out; obtain ⟨hcz14_0, hcz14_1, hcz14_2, hfz14_0, hfz14_1, hfz14_2⟩ := bx3_ (w := w11) BK172.out))
  go_ret
  exact ⟨Z11, Z71⟩
 rw [if_neg c9] at H
 have c9b0 : (a0_1 == a1_1) = false := beq_eq_false_iff_ne.mpr c9
 have c9b1 : (a0_1 != a1_1) = true := bne_iff_ne.mpr c9
 obtain rfl := Option.some.inj H
 go_enter Try.func109, Try.ntmps109
 go_wp2_with (first | ((with_reducible refine gate_dst (N := 2) rfl ?_); refine bv_ 2 90 #[.int .i64 a0_0, .int .i64 a0_1, .int .i64 a0_2] ?_; intro gb171 hg w15 hbox hb; refine k4_ (below_step (Z2) hb) (hbox) ((Z34 : w.heap.size ≤ gb171)) ((Z34 : w.heap.size ≤ gb171)) ?_; clear HB; intro HB BK171 GW171 GE171; clear hb hbox hg) | ((with_reducible refine gate_dst (N := 3) rfl ?_); refine bv_ 3 90 #[.int .i64 a1_0, .int .i64 a1_1, .int .i64 a1_2] ?_; intro gb172 hg w16 hbox hb; refine k7_ (blk_below (g := gb171) (o := .cells #[.int .i64 a0_0, .int .i64 a0_1, .int .i64 a0_2] 90 (0, 0)) (Z4 BK171.out) hb) (below_step (Z41) hb) (hbox) ((Z92 : w.heap.size ≤ gb172)) ((Z92 : w.heap.size ≤ gb172)) ((Z85 : gb171 ≠ gb172)) ((Z86 : gb172 ≠ gb171)) ?_; clear BK171 HB; intro BK171 HB BK172 GW172 GE172 NB171_172 NB172_171; clear hb hbox hg; have hnb17 := NB171_172.out; have hnc17 := NB172_171.out; obtain ⟨hcz18_0, hcz18_1, hcz18_2, hfz18_0, hfz18_1, hfz18_2⟩ := bx3_ (w := w16) BK171.out; obtain ⟨hcz19_0, hcz19_1, hcz19_2, hfz19_0, hfz19_1, hfz19_2⟩ := bx3_ (w := w16) BK172.out))
 go_ret
 exact ⟨Z11, Z71⟩

end Go.Proofs.Ytmnnmddfmmaohaa.PFnStains
