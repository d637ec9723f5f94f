-- written by a program of this session: the kit's print, with outer functions of the session's own (wip/ext)
import Derived.Test.YtcpbncljimmkfaaGreatDoorPFnScansx0
import Derived.Test.YtcpbncljimmkfaaGreatDoorPFnScansx10
import Derived.Test.YtcpbncljimmkfaaGreatDoorPFnScansx13
import Derived.Test.YtcpbncljimmkfaaGreatDoorPFnScansx16
namespace Go.Proofs.YtcpbncljimmkfaaGreatDoor.PFnScans
open Go.RowKit Go.Proofs.YtcpbncljimmkfaaGreatDoorW.PrintWords Go.Proofs.YtcpbncljimmkfaaGreatDoorW.PrintLast Go.Proofs.YtcpbncljimmkfaaGreatDoorW.PrintMore
attribute [local go_sem] max2_int min2_int max_two min_two max_three min_three max_four min_four   -- for this text's walks alone
set_option linter.unusedVariables false
set_option linter.unusedSimpArgs false
theorem mo17_ {p : Prop} (h : p := by repeat' first | (with_reducible first | apply ih0 | apply ih0 | apply ih1 | apply ih1 | apply impl_IsScan.mono | apply impl_IsScan.mono | apply impl_filledScan.mono | apply impl_filledScan.mono | apply spec_scFill.mono | apply spec_scFill.mono | apply spec_scGood.mono | apply spec_scGood.mono | exact LeO.refl _ | exact LeO.none _ | refine LeO.ite ?_ ?_ | refine LeO.bind ?_ (fun _ => ?_)) | exact LeO.none _ | refine LeO.ite ?_ ?_ | refine LeO.bind ?_ (fun _ => ?_)) : p := h

/-! ### impl_filledScan: function 48 -/
def impl_filledScan.l0 : Nat → ByteArray → List ByteArray → List ByteArray → Int → Int → Option (List ByteArray)
 | 0, _, _, _, _, _ => none
 | k + 1, x1, x5, x9, x10, x11 => if x11 < x10 then (if 0 ≤ x11 then (if x11 < (x9.length : Int) then ((strings_ReplaceAll.f (rdOf ByteArray.empty x9 x11) (⟨#[63]⟩ : ByteArray) x1).bind fun qJ => (if x5.length < 8796093022208 then (impl_filledScan.l0 k x1 (x5 ++ [qJ]) x9 x10 (wrap64 (x11 + 1))) else (none))) else (none)) else (none)) else (some x5)
def impl_filledScan.f (k : Nat) (l0 : List ByteArray) (a1 : ByteArray) : Option (List ByteArray) := impl_filledScan.l0 k a1 (([] : List ByteArray)) l0 (l0.length : Int) 0
theorem impl_filledScan.mono_l : ∀ k, (∀ y0 y1 y2 y3 y4, LeO (impl_filledScan.l0 k y0 y1 y2 y3 y4) (impl_filledScan.l0 (k + 1) y0 y1 y2 y3 y4))
 | 0 => fun _ _ _ _ _ r h => by simp [impl_filledScan.l0] at h
 | k + 1 => by
  have ih0 := impl_filledScan.mono_l k
  ·intro y0 y1 y2 y3 y4
   unfold impl_filledScan.l0
   exact mo17_
theorem impl_filledScan.mono : ∀ a0 a1 k, LeO (impl_filledScan.f k a0 a1) (impl_filledScan.f (k + 1) a0 a1) := by
 intro a0 a1 k
 have ih0 := impl_filledScan.mono_l k
 unfold impl_filledScan.f
 exact mo17_
set_option maxHeartbeats 8000000 in
set_option maxRecDepth 100000 in
theorem impl_filledScan.calls (k : Nat) (A0 : Option Addr) (c0 : Nat) (l0 : List ByteArray) (a1 : ByteArray) (r : List ByteArray) (w : World) (hr0 : Kd.C Kd.string w A0 l0.length l0) (hc0 : l0.length ≤ c0) (h : impl_filledScan.f k l0 a1 = some r) :
  Calls Tryz.prog 48 #[.slice A0 l0.length c0, .string a1] w fun e w' => ∃ v0_ : Value, e = .returned (v0_) ∧ Kd.R Kd.string 9 w' w.heap.size (fun _ => True) v0_ r ∧ Below w.heap.size w w' := by
 have HR0 := Aside0.mk hr0
 have HC0 := Aside0.mk hc0
 clear hr0 hc0
 have HB := Aside0.mk (Below.refl w.heap.size w)
 have H : (impl_filledScan.l0 k a1 (([] : List ByteArray)) l0 (l0.length : Int) 0) = some r := h
 clear h
 obtain ⟨Bf, mY⟩ : ∃ y_ : List ByteArray, y_ = (([] : List ByteArray)) := ⟨_, rfl⟩
 replace H : (impl_filledScan.l0 k a1 Bf l0 (l0.length : Int) 0) = some r := by first | (rw [mY]; with_reducible exact H) | (have H2_ := (Option.bind_some _ _).symm.trans H; rw [mY]; with_reducible exact H2_) | (have H2_ := (Option.bind_some _ _).symm.trans H; with_reducible exact H2_) | with_reducible exact H | (rw [mY]; exact H) | exact H
 have v2 := Aside0.mk mY
 clear mY
 have H' := Aside0.mk H
 clear H
 go_enter Tryz.func48, Tryz.ntmps48
 go_wp2_with ((with_reducible refine gate_dst (N := 8) rfl ?_); refine Kd.R_lit Kd.string _ 9 ?hg (N := 8) ?hd (xs := ([] : List ByteArray)) (inner := []) (ok := fun _ => True) (okp := fun _ => True) ?hr ?hp (fun _ hk => hk) trivial (Below.refl _ _) (Nat.le_refl _) (by simp) ?_; (case hd => rfl); (case hg => rfl); (case hr => exact Z41); (case hp => exact (Reps.none _ _)); intro v607 w3 ho4 hb hg_ hnew_; clear hg_ hnew_; (first | rw [← v2.out] at ho4 | (simp only [Int.reduceToNat] at ho4; rw [← v2.out] at ho4)); refine k2_ (Kd.R_lower ho4 (below_size (Z2))) (below_step (Z2) hb) ?_; clear HB; intro HO608 HB; clear hb ho4)
 (try simp only [Act.put, List.setIfInBounds_toArray, List.set_cons_zero, List.set_cons_succ])
 go_loopg [5, 11] k (fun kq v5 CG w' => ∃ (ag : List ByteArray) (dt : Int), CG = .int .i64 dt ∧ Aside0 (impl_filledScan.l0 kq a1 ag l0 (l0.length : Int) dt = some r) ∧ Aside0 (kq ≤ k) ∧ Aside0 (Kd.R Kd.string 9 w' w.heap.size (fun _ => True) v5 ag) ∧ Aside0 (Below w.heap.size w w'))
 case atStart => exact ⟨(Bf), (0), (Z11), H', ⟨Nat.le_refl _⟩, ⟨Z3 HO608⟩, ⟨Z2⟩⟩
 case round =>
  clear H'
  obtain ⟨ag, dt, rfl, HA, HK1, ai, HB⟩ := hrel
  cases gk with
  | zero => exact absurd HA.out (by simp [impl_filledScan.l0])
  | succ k1 =>
   have H := HA.out
   clear HA
   simp only [impl_filledScan.l0] at H
   by_cases c5 : dt < (l0.length : Int)
   ·rw [if_pos c5] at H
    have ci : decide (dt < (l0.length : Int)) = true := decide_eq_true c5
    clear c5
    by_cases c6 : 0 ≤ dt
    case neg => rw [if_neg c6] at H; exact absurd H (by simp)
    rw [if_pos c6] at H
    have ck : decide (0 ≤ dt) = true := decide_eq_true c6
    clear c6
    by_cases c7 : dt < (l0.length : Int)
    case neg => rw [if_neg c7] at H; exact absurd H (by simp)
    rw [if_pos c7] at H
    have cd : decide (dt < (l0.length : Int)) = true := decide_eq_true c7
    clear c7
    obtain ⟨qJ, A8, H⟩ := bd_ H
    (try dsimp only at H)
    by_cases c9 : ag.length < 8796093022208
    case neg => rw [if_neg c9] at H; exact absurd H (by simp)
    rw [if_pos c9] at H
    have LMc9 := Aside0.mk c9
    clear c9
    obtain ⟨Bg, mZ⟩ : ∃ y_ : List ByteArray, y_ = (ag ++ [qJ]) := ⟨_, rfl⟩
    replace H : (impl_filledScan.l0 k1 a1 Bg l0 (l0.length : Int) (wrap64 (dt + 1))) = some r := by first | (rw [mZ]; with_reducible exact H) | (have H2_ := (Option.bind_some _ _).symm.trans H; rw [mZ]; with_reducible exact H2_) | (have H2_ := (Option.bind_some _ _).symm.trans H; with_reducible exact H2_) | with_reducible exact H | (rw [mZ]; exact H) | exact H
    have Ny611 := Aside0.mk mZ
    clear mZ
    have H' := Aside0.mk H
    clear H
    have yM : 0 ≤ (dt : Int) := of_decide_eq_true (Z8)
    have yN : dt < (l0.length : Int) := of_decide_eq_true (Z8)
    obtain ⟨ad609, e609, lC⟩ := Kd.at_string HR0.out dt yM yN
    cases e609
    replace lC := (HB.out.cell (World.block_lt_of_cell? w _ lC)).trans lC
    replace yM := eq_true yM
    replace yN := eq_true yN
    go_wp2_with (first | ((with_reducible refine gate_callee (f := 68) rfl ?_); refine gl_ 18 Tryz.func68 #[.string (rdOf ByteArray.empty l0 dt), .string (⟨#[63]⟩ : ByteArray), .string a1] ?_; (with_reducible refine (strings_ReplaceAll.calls (rdOf ByteArray.empty l0 dt) (⟨#[63]⟩ : ByteArray) a1 qJ _ A8.out).mono ?_); rintro e pL ⟨rfl, hb⟩; refine ⟨_, rfl, ?_⟩; refine k2_ (Ya_ ai) (below_step (Z2) hb) ?_; clear ai HB; intro ai HB; (try clear hb)) | ((with_reducible refine gate_builtin (b := .append) (xs := #[.tmp 15, .tmp 19]) rfl ?_); at_builtin; refine Kd.R_append Kd.string (w0 := w) w.heap.size rfl (.tmp 15) (.tmp 19) 27 9 (.string ⟨#[]⟩) 16 rfl Tryz.underlying27 info9 rfl (by decide) (by omega) u5 ag qJ [.string qJ] (fun _ => True) (fun _ => False) rfl rfl ?aP (fun _ hk => hk.elim) ?aF ?aO ?aB ?aS ?aL ?_; (case aP => exact rfl); (case aB => exact Z2); (case aF => exact (fun _ _ => trivial)); (case aO => exact (Z3 ai)); (case aS => exact (below_size (Z2))); (case aL => exact Z83 LMc9); intro v612 g3 ho hb hg hat; rw [← Ny611.out] at ho; refine k2_ (hb) (ho) ?_; clear HB ai; intro HB HO613; clear ho hb hg hat))
    go_roundg k1
    case measure => have := HK1.out; omega
    case rel => exact ⟨(Bg), (wrap64 (dt + 1)), (Z11), H', ⟨Z83 HK1⟩, ⟨Z3 HO613⟩, ⟨Z2⟩⟩
   rw [if_neg c5] at H
   have ci : decide (dt < (l0.length : Int)) = false := decide_eq_false c5
   clear c5
   obtain rfl := Option.some.inj H
   go_wp2
   go_ret
   exact ⟨_, Z9, Z3 ai, Z2⟩

/-! ### impl_LeastHoles: function 20 -/
def impl_LeastHoles.f (k : Nat) (l0 : List ByteArray) : Option (List ByteArray × Bool) := (impl_IsScan.f k l0).bind fun sA => (if sA = true then ((impl_filledScan.f k l0 (⟨#[46]⟩ : ByteArray)).bind fun qK => (some (qK, true))) else (some (([] : List ByteArray), false)))
theorem impl_LeastHoles.mono : ∀ a0 k, LeO (impl_LeastHoles.f k a0) (impl_LeastHoles.f (k + 1) a0) := by
 intro a0 k
 unfold impl_LeastHoles.f
 exact mo17_
set_option maxHeartbeats 8000000 in
set_option maxRecDepth 100000 in
theorem impl_LeastHoles.calls (k : Nat) (A0 : Option Addr) (c0 : Nat) (l0 : List ByteArray) (r1 : List ByteArray) (r2 : Bool) (w : World) (hr0 : Kd.C Kd.string w A0 l0.length l0) (hc0 : l0.length ≤ c0) (h : impl_LeastHoles.f k l0 = some (r1, r2)) :
  Calls Tryz.prog 20 #[.slice A0 l0.length c0] w fun e w' => ∃ v0_ : Value, e = .returned (.tuple #[v0_, .bool r2]) ∧ Kd.R Kd.string 9 w' w.heap.size (fun _ => True) v0_ r1 ∧ Below w.heap.size w w' := by
 have HR0 := Aside0.mk hr0
 have HC0 := Aside0.mk hc0
 clear hr0 hc0
 have HB := Aside0.mk (Below.refl w.heap.size w)
 have H : ((impl_IsScan.f k l0).bind fun sA => (if sA = true then ((impl_filledScan.f k l0 (⟨#[46]⟩ : ByteArray)).bind fun qK => (some (qK, true))) else (some (([] : List ByteArray), false)))) = some (r1, r2) := h
 clear h
 obtain ⟨sA, A2, H⟩ := bd_ H
 (try dsimp only at H)
 by_cases c3 : sA = true
 ·subst c3
  rw [if_pos rfl] at H
  obtain ⟨qK, A4, H⟩ := bd_ H
  replace H : (some (qK, true)) = some (r1, r2) := H
  simp only [Option.some.injEq, Prod.mk.injEq] at H
  obtain ⟨rfl, rfl⟩ := H
  go_enter Tryz.func20, Tryz.ntmps20
  go_wp2_with (first | ((with_reducible refine gate_callee (f := 10) rfl ?_); refine gl_ 5 Tryz.func10 #[.slice A0 l0.length c0] ?_; (with_reducible refine (impl_IsScan.calls k _ _ l0 true _ ?_ ?_ A2.out).mono ?_); exact (Z10 HR0); exact HC0.out; rintro e w' ⟨rfl, ⟨nd, rfl⟩⟩; refine ⟨_, rfl, ?_⟩) | ((with_reducible refine gate_callee (f := 48) rfl ?_); refine gl_ 8 Tryz.func48 #[.slice A0 l0.length c0, .string (⟨#[46]⟩ : ByteArray)] ?_; (with_reducible refine (impl_filledScan.calls k _ _ l0 (⟨#[46]⟩ : ByteArray) qK _ ?_ ?_ A4.out).mono ?_); exact (Z10 HR0); exact HC0.out; rintro e w5 ⟨v616, rfl, ho0, hb⟩; refine ⟨_, rfl, ?_⟩; refine k2_ (Kd.R_lower ho0 (below_size (Z2))) (below_step (Z2) hb) ?_; clear HB; intro HO617 HB; (try clear hb ho0)))
  go_ret2
  exact ⟨_, Z9, Z3 HO617, Z2⟩
 replace c3 := Bool.eq_false_iff.mpr c3
 subst c3
 rw [if_neg (show ¬ (false = true) by decide)] at H
 simp only [Option.some.injEq, Prod.mk.injEq] at H
 obtain ⟨rfl, rfl⟩ := H
 go_enter Tryz.func20, Tryz.ntmps20
 go_wp2_with ((with_reducible refine gate_callee (f := 10) rfl ?_); refine gl_ 5 Tryz.func10 #[.slice A0 l0.length c0] ?_; (with_reducible refine (impl_IsScan.calls k _ _ l0 false _ ?_ ?_ A2.out).mono ?_); exact (Z10 HR0); exact HC0.out; rintro e w' ⟨rfl, ⟨nd, rfl⟩⟩; refine ⟨_, rfl, ?_⟩)
 go_ret2
 exact ⟨_, Z9, Z15, Z2⟩

/-! ### spec_LeastHoles: function 21 -/
def spec_LeastHoles.f (k : Nat) (l0 : List ByteArray) : Option (List ByteArray × Bool) := (spec_scGood.f k l0).bind fun sB => (if sB = true then ((spec_scFill.f k l0 (⟨#[46]⟩ : ByteArray)).bind fun qL => (some (qL, true))) else (some (([] : List ByteArray), false)))
theorem spec_LeastHoles.mono : ∀ a0 k, LeO (spec_LeastHoles.f k a0) (spec_LeastHoles.f (k + 1) a0) := by
 intro a0 k
 unfold spec_LeastHoles.f
 exact mo17_
set_option maxHeartbeats 8000000 in
set_option maxRecDepth 100000 in
theorem spec_LeastHoles.calls (k : Nat) (A0 : Option Addr) (c0 : Nat) (l0 : List ByteArray) (r1 : List ByteArray) (r2 : Bool) (w : World) (hr0 : Kd.C Kd.string w A0 l0.length l0) (hc0 : l0.length ≤ c0) (h : spec_LeastHoles.f k l0 = some (r1, r2)) :
  Calls Tryz.prog 21 #[.slice A0 l0.length c0] w fun e w' => ∃ v0_ : Value, e = .returned (.tuple #[v0_, .bool r2]) ∧ Kd.R Kd.string 9 w' w.heap.size (fun _ => True) v0_ r1 ∧ Below w.heap.size w w' := by
 have HR0 := Aside0.mk hr0
 have HC0 := Aside0.mk hc0
 clear hr0 hc0
 have HB := Aside0.mk (Below.refl w.heap.size w)
 have H : ((spec_scGood.f k l0).bind fun sB => (if sB = true then ((spec_scFill.f k l0 (⟨#[46]⟩ : ByteArray)).bind fun qL => (some (qL, true))) else (some (([] : List ByteArray), false)))) = some (r1, r2) := h
 clear h
 obtain ⟨sB, A2, H⟩ := bd_ H
 (try dsimp only at H)
 by_cases c3 : sB = true
 ·subst c3
  rw [if_pos rfl] at H
  obtain ⟨qL, A4, H⟩ := bd_ H
  replace H : (some (qL, true)) = some (r1, r2) := H
  simp only [Option.some.injEq, Prod.mk.injEq] at H
  obtain ⟨rfl, rfl⟩ := H
  go_enter Tryz.func21, Tryz.ntmps21
  go_wp2_with (first | ((with_reducible refine gate_callee (f := 41) rfl ?_); refine gl_ 5 Tryz.func41 #[.slice A0 l0.length c0] ?_; (with_reducible refine (spec_scGood.calls k _ _ l0 true _ ?_ ?_ A2.out).mono ?_); exact (Z10 HR0); exact HC0.out; rintro e w' ⟨rfl, ⟨nd, rfl⟩⟩; refine ⟨_, rfl, ?_⟩) | ((with_reducible refine gate_callee (f := 43) rfl ?_); refine gl_ 8 Tryz.func43 #[.slice A0 l0.length c0, .string (⟨#[46]⟩ : ByteArray)] ?_; (with_reducible refine (spec_scFill.calls k _ _ l0 (⟨#[46]⟩ : ByteArray) qL _ ?_ ?_ A4.out).mono ?_); exact (Z10 HR0); exact HC0.out; rintro e w5 ⟨v620, rfl, ho0, hb⟩; refine ⟨_, rfl, ?_⟩; refine k2_ (Kd.R_lower ho0 (below_size (Z2))) (below_step (Z2) hb) ?_; clear HB; intro HO621 HB; (try clear hb ho0)))
  go_ret2
  exact ⟨_, Z9, Z3 HO621, Z2⟩
 replace c3 := Bool.eq_false_iff.mpr c3
 subst c3
 rw [if_neg (show ¬ (false = true) by decide)] at H
 simp only [Option.some.injEq, Prod.mk.injEq] at H
 obtain ⟨rfl, rfl⟩ := H
 go_enter Tryz.func21, Tryz.ntmps21
 go_wp2_with ((with_reducible refine gate_callee (f := 41) rfl ?_); refine gl_ 5 Tryz.func41 #[.slice A0 l0.length c0] ?_; (with_reducible refine (spec_scGood.calls k _ _ l0 false _ ?_ ?_ A2.out).mono ?_); exact (Z10 HR0); exact HC0.out; rintro e w' ⟨rfl, ⟨nd, rfl⟩⟩; refine ⟨_, rfl, ?_⟩)
 go_ret2
 exact ⟨_, Z9, Z15, Z2⟩

/-! ### impl_MostHoles: function 22 -/
def impl_MostHoles.f (k : Nat) (l0 : List ByteArray) : Option (List ByteArray × Bool) := (impl_IsScan.f k l0).bind fun sC => (if sC = true then ((impl_filledScan.f k l0 (⟨#[111]⟩ : ByteArray)).bind fun qM => (some (qM, true))) else (some (([] : List ByteArray), false)))
theorem impl_MostHoles.mono : ∀ a0 k, LeO (impl_MostHoles.f k a0) (impl_MostHoles.f (k + 1) a0) := by
 intro a0 k
 unfold impl_MostHoles.f
 exact mo17_
set_option maxHeartbeats 8000000 in
set_option maxRecDepth 100000 in
theorem impl_MostHoles.calls (k : Nat) (A0 : Option Addr) (c0 : Nat) (l0 : List ByteArray) (r1 : List ByteArray) (r2 : Bool) (w : World) (hr0 : Kd.C Kd.string w A0 l0.length l0) (hc0 : l0.length ≤ c0) (h : impl_MostHoles.f k l0 = some (r1, r2)) :
  Calls Tryz.prog 22 #[.slice A0 l0.length c0] w fun e w' => ∃ v0_ : Value, e = .returned (.tuple #[v0_, .bool r2]) ∧ Kd.R Kd.string 9 w' w.heap.size (fun _ => True) v0_ r1 ∧ Below w.heap.size w w' := by
 have HR0 := Aside0.mk hr0
 have HC0 := Aside0.mk hc0
 clear hr0 hc0
 have HB := Aside0.mk (Below.refl w.heap.size w)
 have H : ((impl_IsScan.f k l0).bind fun sC => (if sC = true then ((impl_filledScan.f k l0 (⟨#[111]⟩ : ByteArray)).bind fun qM => (some (qM, true))) else (some (([] : List ByteArray), false)))) = some (r1, r2) := h
 clear h
 obtain ⟨sC, A2, H⟩ := bd_ H
 (try dsimp only at H)
 by_cases c3 : sC = true
 ·subst c3
  rw [if_pos rfl] at H
  obtain ⟨qM, A4, H⟩ := bd_ H
  replace H : (some (qM, true)) = some (r1, r2) := H
  simp only [Option.some.injEq, Prod.mk.injEq] at H
  obtain ⟨rfl, rfl⟩ := H
  go_enter Tryz.func22, Tryz.ntmps22
  go_wp2_with (first | ((with_reducible refine gate_callee (f := 10) rfl ?_); refine gl_ 5 Tryz.func10 #[.slice A0 l0.length c0] ?_; (with_reducible refine (impl_IsScan.calls k _ _ l0 true _ ?_ ?_ A2.out).mono ?_); exact (Z10 HR0); exact HC0.out; rintro e w' ⟨rfl, ⟨nd, rfl⟩⟩; refine ⟨_, rfl, ?_⟩) | ((with_reducible refine gate_callee (f := 48) rfl ?_); refine gl_ 8 Tryz.func48 #[.slice A0 l0.length c0, .string (⟨#[111]⟩ : ByteArray)] ?_; (with_reducible refine (impl_filledScan.calls k _ _ l0 (⟨#[111]⟩ : ByteArray) qM _ ?_ ?_ A4.out).mono ?_); exact (Z10 HR0); exact HC0.out; rintro e w5 ⟨v624, rfl, ho0, hb⟩; refine ⟨_, rfl, ?_⟩; refine k2_ (Kd.R_lower ho0 (below_size (Z2))) (below_step (Z2) hb) ?_; clear HB; intro HO625 HB; (try clear hb ho0)))
  go_ret2
  exact ⟨_, Z9, Z3 HO625, Z2⟩
 replace c3 := Bool.eq_false_iff.mpr c3
 subst c3
 rw [if_neg (show ¬ (false = true) by decide)] at H
 simp only [Option.some.injEq, Prod.mk.injEq] at H
 obtain ⟨rfl, rfl⟩ := H
 go_enter Tryz.func22, Tryz.ntmps22
 go_wp2_with ((with_reducible refine gate_callee (f := 10) rfl ?_); refine gl_ 5 Tryz.func10 #[.slice A0 l0.length c0] ?_; (with_reducible refine (impl_IsScan.calls k _ _ l0 false _ ?_ ?_ A2.out).mono ?_); exact (Z10 HR0); exact HC0.out; rintro e w' ⟨rfl, ⟨nd, rfl⟩⟩; refine ⟨_, rfl, ?_⟩)
 go_ret2
 exact ⟨_, Z9, Z15, Z2⟩

/-! ### spec_MostHoles: function 23 -/
def spec_MostHoles.f (k : Nat) (l0 : List ByteArray) : Option (List ByteArray × Bool) := (spec_scGood.f k l0).bind fun sD => (if sD = true then ((spec_scFill.f k l0 (⟨#[111]⟩ : ByteArray)).bind fun qN => (some (qN, true))) else (some (([] : List ByteArray), false)))
theorem spec_MostHoles.mono : ∀ a0 k, LeO (spec_MostHoles.f k a0) (spec_MostHoles.f (k + 1) a0) := by
 intro a0 k
 unfold spec_MostHoles.f
 exact mo17_
set_option maxHeartbeats 8000000 in
set_option maxRecDepth 100000 in
theorem spec_MostHoles.calls (k : Nat) (A0 : Option Addr) (c0 : Nat) (l0 : List ByteArray) (r1 : List ByteArray) (r2 : Bool) (w : World) (hr0 : Kd.C Kd.string w A0 l0.length l0) (hc0 : l0.length ≤ c0) (h : spec_MostHoles.f k l0 = some (r1, r2)) :
  Calls Tryz.prog 23 #[.slice A0 l0.length c0] w fun e w' => ∃ v0_ : Value, e = .returned (.tuple #[v0_, .bool r2]) ∧ Kd.R Kd.string 9 w' w.heap.size (fun _ => True) v0_ r1 ∧ Below w.heap.size w w' := by
 have HR0 := Aside0.mk hr0
 have HC0 := Aside0.mk hc0
 clear hr0 hc0
 have HB := Aside0.mk (Below.refl w.heap.size w)
 have H : ((spec_scGood.f k l0).bind fun sD => (if sD = true then ((spec_scFill.f k l0 (⟨#[111]⟩ : ByteArray)).bind fun qN => (some (qN, true))) else (some (([] : List ByteArray), false)))) = some (r1, r2) := h
 clear h
 obtain ⟨sD, A2, H⟩ := bd_ H
 (try dsimp only at H)
 by_cases c3 : sD = true
 ·subst c3
  rw [if_pos rfl] at H
  obtain ⟨qN, A4, H⟩ := bd_ H
  replace H : (some (qN, true)) = some (r1, r2) := H
  simp only [Option.some.injEq, Prod.mk.injEq] at H
  obtain ⟨rfl, rfl⟩ := H
  go_enter Tryz.func23, Tryz.ntmps23
  go_wp2_with (first | ((with_reducible refine gate_callee (f := 41) rfl ?_); refine gl_ 5 Tryz.func41 #[.slice A0 l0.length c0] ?_; (with_reducible refine (spec_scGood.calls k _ _ l0 true _ ?_ ?_ A2.out).mono ?_); exact (Z10 HR0); exact HC0.out; rintro e w' ⟨rfl, ⟨nd, rfl⟩⟩; refine ⟨_, rfl, ?_⟩) | ((with_reducible refine gate_callee (f := 43) rfl ?_); refine gl_ 8 Tryz.func43 #[.slice A0 l0.length c0, .string (⟨#[111]⟩ : ByteArray)] ?_; (with_reducible refine (spec_scFill.calls k _ _ l0 (⟨#[111]⟩ : ByteArray) qN _ ?_ ?_ A4.out).mono ?_); exact (Z10 HR0); exact HC0.out; rintro e w5 ⟨v628, rfl, ho0, hb⟩; refine ⟨_, rfl, ?_⟩; refine k2_ (Kd.R_lower ho0 (below_size (Z2))) (below_step (Z2) hb) ?_; clear HB; intro HO629 HB; (try clear hb ho0)))
  go_ret2
  exact ⟨_, Z9, Z3 HO629, Z2⟩
 replace c3 := Bool.eq_false_iff.mpr c3
 subst c3
 rw [if_neg (show ¬ (false = true) by decide)] at H
 simp only [Option.some.injEq, Prod.mk.injEq] at H
 obtain ⟨rfl, rfl⟩ := H
 go_enter Tryz.func23, Tryz.ntmps23
 go_wp2_with ((with_reducible refine gate_callee (f := 41) rfl ?_); refine gl_ 5 Tryz.func41 #[.slice A0 l0.length c0] ?_; (with_reducible refine (spec_scGood.calls k _ _ l0 false _ ?_ ?_ A2.out).mono ?_); exact (Z10 HR0); exact HC0.out; rintro e w' ⟨rfl, ⟨nd, rfl⟩⟩; refine ⟨_, rfl, ?_⟩)
 go_ret2
 exact ⟨_, Z9, Z15, Z2⟩

/-! ### spec_CountStains: function 24 -/
mutual
def spec_CountStains.l0 : Nat → Int → List ByteArray → Int → Int → Option (Int × Bool)
 | 0, _, _, _, _ => none
 | k + 1, x4, x11, x12, x13 => if x13 < x12 then (if 0 ≤ x13 then (if x13 < (x11.length : Int) then (spec_CountStains.l1 k x4 (rdOf ByteArray.empty x11 x13) 0 x11 x12 x13) else (none)) else (none)) else (some (x4, true))
def spec_CountStains.l1 : Nat → Int → ByteArray → Int → List ByteArray → Int → Int → Option (Int × Bool)
 | 0, _, _, _, _, _, _ => none
 | k + 1, x4, x6, x7, x11, x12, x13 => if x7 < (x6.size : Int) then (if 0 ≤ x7 then (if (bt x6 x7) = 63 then (spec_CountStains.l1 k (wrap64 (x4 + 1)) x6 (wrap64 (x7 + 1)) x11 x12 x13) else (spec_CountStains.l1 k x4 x6 (wrap64 (x7 + 1)) x11 x12 x13)) else (none)) else (spec_CountStains.l0 k x4 x11 x12 (wrap64 (x13 + 1)))
end
def spec_CountStains.f (k : Nat) (l0 : List ByteArray) : Option (Int × Bool) := (spec_scGood.f k l0).bind fun sE => (if sE = true then (spec_CountStains.l0 k 0 l0 (l0.length : Int) 0) else (some (0, false)))
theorem spec_CountStains.mono_l : ∀ k, (∀ y0 y1 y2 y3, LeO (spec_CountStains.l0 k y0 y1 y2 y3) (spec_CountStains.l0 (k + 1) y0 y1 y2 y3)) ∧ (∀ y0 y1 y2 y3 y4 y5, LeO (spec_CountStains.l1 k y0 y1 y2 y3 y4 y5) (spec_CountStains.l1 (k + 1) y0 y1 y2 y3 y4 y5))
 | 0 => ⟨fun _ _ _ _ r h => by simp [spec_CountStains.l0] at h, fun _ _ _ _ _ _ r h => by simp [spec_CountStains.l1] at h⟩
 | k + 1 => by
  obtain ⟨ih0, ih1⟩ := spec_CountStains.mono_l k
  refine ⟨?_, ?_⟩
  ·intro y0 y1 y2 y3
   unfold spec_CountStains.l0
   exact mo17_
  intro y0 y1 y2 y3 y4 y5
  unfold spec_CountStains.l1
  exact mo17_
theorem spec_CountStains.mono : ∀ a0 k, LeO (spec_CountStains.f k a0) (spec_CountStains.f (k + 1) a0) := by
 intro a0 k
 obtain ⟨ih0, ih1⟩ := spec_CountStains.mono_l k
 unfold spec_CountStains.f
 exact mo17_
set_option maxHeartbeats 8000000 in
set_option maxRecDepth 100000 in
theorem spec_CountStains.calls (k : Nat) (A0 : Option Addr) (c0 : Nat) (l0 : List ByteArray) (r1 : Int) (r2 : Bool) (w : World) (hr0 : Kd.C Kd.string w A0 l0.length l0) (hc0 : l0.length ≤ c0) (h : spec_CountStains.f k l0 = some (r1, r2)) :
  Calls Tryz.prog 24 #[.slice A0 l0.length c0] w fun e w' => e = .returned (.tuple #[.int .i64 r1, .bool r2]) ∧ Drawn0 w w' := by
 have HR0 := Aside0.mk hr0
 have HC0 := Aside0.mk hc0
 clear hr0 hc0
 have H : ((spec_scGood.f k l0).bind fun sE => (if sE = true then (spec_CountStains.l0 k 0 l0 (l0.length : Int) 0) else (some (0, false)))) = some (r1, r2) := h
 clear h
 obtain ⟨sE, A2, H⟩ := bd_ H
 (try dsimp only at H)
 by_cases c3 : sE = true
 ·subst c3
  rw [if_pos rfl] at H
  have H' := Aside0.mk H
  clear H
  go_enter Tryz.func24, Tryz.ntmps24
  go_wp2_with ((with_reducible refine gate_callee (f := 41) rfl ?_); refine gl_ 9 Tryz.func41 #[.slice A0 l0.length c0] ?_; (with_reducible refine (spec_scGood.calls k _ _ l0 true _ ?_ ?_ A2.out).mono ?_); exact (Z10 HR0); exact HC0.out; rintro e w' ⟨rfl, ⟨nd, rfl⟩⟩; refine ⟨_, rfl, ?_⟩)
  (try simp only [Act.put, List.setIfInBounds_toArray, List.set_cons_zero, List.set_cons_succ])
  go_loopg [4, 13] k (fun kq v4 ug w' => ∃ (ap : Int) (af : Int), v4 = .int .i64 ap ∧ ug = .int .i64 af ∧ Aside0 (spec_CountStains.l0 kq ap l0 (l0.length : Int) af = some (r1, r2)) ∧ Aside0 (kq ≤ k) ∧ Drawn0 w w')
  case atStart => exact ⟨(0), (0), (Z11), (Z11), H', ⟨Nat.le_refl _⟩, Z14⟩
  case round =>
   clear H'
   (try clear c3)
   obtain ⟨ap, af, rfl, rfl, HA, HK1, ⟨m1, rfl⟩⟩ := hrel
   cases gk with
   | zero => exact absurd HA.out (by simp [spec_CountStains.l0])
   | succ k1 =>
    have H := HA.out
    clear HA
    simp only [spec_CountStains.l0] at H
    by_cases c4 : af < (l0.length : Int)
    ·rw [if_pos c4] at H
     have bZ : decide (af < (l0.length : Int)) = true := decide_eq_true c4
     clear c4
     by_cases c5 : 0 ≤ af
     case neg => rw [if_neg c5] at H; exact absurd H (by simp)
     rw [if_pos c5] at H
     have ci : decide (0 ≤ af) = true := decide_eq_true c5
     clear c5
     by_cases c6 : af < (l0.length : Int)
     case neg => rw [if_neg c6] at H; exact absurd H (by simp)
     rw [if_pos c6] at H
     have ck : decide (af < (l0.length : Int)) = true := decide_eq_true c6
     clear c6
     have H' := Aside0.mk H
     clear H
     have uI : 0 ≤ (af : Int) := of_decide_eq_true (Z8)
     have uJ : af < (l0.length : Int) := of_decide_eq_true (Z8)
     obtain ⟨ad631, e631, hx631_0⟩ := Kd.at_string HR0.out af uI uJ
     cases e631
     replace uI := eq_true uI
     replace uJ := eq_true uJ
     go_wp2
     go_loopg [4, 7] k1 (fun kq v4 v7 w' => ∃ (ba : Int) (aw : Int), v4 = .int .i64 ba ∧ v7 = .int .i64 aw ∧ Aside0 (spec_CountStains.l1 kq ba (rdOf ByteArray.empty l0 af) aw l0 (l0.length : Int) af = some (r1, r2)) ∧ Aside0 (kq ≤ k1) ∧ Drawn0 w w')
     case atStart => exact ⟨(ap), (0), (Z11), (Z11), H', ⟨Nat.le_refl _⟩, Z14⟩
     case round =>
      clear H'
      (try clear c4); (try clear bZ); (try clear c5); (try clear ci); (try clear c6); (try clear ck); (try clear hx631_0); (try clear uI); (try clear uJ)
      obtain ⟨ba, aw, rfl, rfl, HA, HK2, ⟨m2, rfl⟩⟩ := hrel
      cases gk with
      | zero => exact absurd HA.out (by simp [spec_CountStains.l1])
      | succ k2 =>
       have H := HA.out
       clear HA
       simp only [spec_CountStains.l1] at H
       by_cases c7 : aw < ((rdOf ByteArray.empty l0 af).size : Int)
       ·rw [if_pos c7] at H
        have cd : decide (aw < ((rdOf ByteArray.empty l0 af).size : Int)) = true := decide_eq_true c7
        clear c7
        by_cases c8 : 0 ≤ aw
        case neg => rw [if_neg c8] at H; exact absurd H (by simp)
        rw [if_pos c8] at H
        have ep : decide (0 ≤ aw) = true := decide_eq_true c8
        clear c8
        by_cases c10 : (bt (rdOf ByteArray.empty l0 af) aw) = 63
        ·rw [if_pos c10] at H
         have b7 : ((bt (rdOf ByteArray.empty l0 af) aw) == 63) = true := beq_iff_eq.mpr c10
         have gn : ((bt (rdOf ByteArray.empty l0 af) aw) != 63) = false := bne_eq_false_iff_eq.mpr c10
         clear c10
         have H' := Aside0.mk H
         clear H
         have p9 : 0 ≤ (aw : Int) := of_decide_eq_true (Z8)
         have q9 : aw < ((rdOf ByteArray.empty l0 af).size : Int) := of_decide_eq_true (Z8)
         have hx9 := bt_at (rdOf ByteArray.empty l0 af) aw
         replace p9 := eq_true p9
         replace q9 := eq_true q9
         go_wp2
         go_roundg k2
         case measure => have := HK1.out; have := HK2.out; omega
         case rel => exact ⟨(wrap64 (ba + 1)), (wrap64 (aw + 1)), (Z11), (Z11), H', ⟨Z50⟩, Z14⟩
        rw [if_neg c10] at H
        have b7 : ((bt (rdOf ByteArray.empty l0 af) aw) == 63) = false := beq_eq_false_iff_ne.mpr c10
        have gn : ((bt (rdOf ByteArray.empty l0 af) aw) != 63) = true := bne_iff_ne.mpr c10
        have H' := Aside0.mk H
        clear H
        have p9 : 0 ≤ (aw : Int) := of_decide_eq_true (Z8)
        have q9 : aw < ((rdOf ByteArray.empty l0 af).size : Int) := of_decide_eq_true (Z8)
        have hx9 := bt_at (rdOf ByteArray.empty l0 af) aw
        replace p9 := eq_true p9
        replace q9 := eq_true q9
        go_wp2
        go_roundg k2
        case measure => have := HK1.out; have := HK2.out; omega
        case rel => exact ⟨(ba), (wrap64 (aw + 1)), (Z11), (Z11), H', ⟨Z50⟩, Z14⟩
       rw [if_neg c7] at H
       have cd : decide (aw < ((rdOf ByteArray.empty l0 af).size : Int)) = false := decide_eq_false c7
       clear c7
       have H' := Aside0.mk H
       clear H
       go_wp2
       go_roundg k2
       case measure => have := HK1.out; have := HK2.out; omega
       case rel => exact ⟨(ba), (wrap64 (af + 1)), (Z11), (Z11), H', ⟨Z50⟩, Z14⟩
    rw [if_neg c4] at H
    have bZ : decide (af < (l0.length : Int)) = false := decide_eq_false c4
    clear c4
    simp only [Option.some.injEq, Prod.mk.injEq] at H
    obtain ⟨rfl, rfl⟩ := H
    go_wp2
    go_ret2
    exact ⟨Z11, Z14⟩
 replace c3 := Bool.eq_false_iff.mpr c3
 subst c3
 rw [if_neg (show ¬ (false = true) by decide)] at H
 simp only [Option.some.injEq, Prod.mk.injEq] at H
 obtain ⟨rfl, rfl⟩ := H
 go_enter Tryz.func24, Tryz.ntmps24
 go_wp2_with ((with_reducible refine gate_callee (f := 41) rfl ?_); refine gl_ 9 Tryz.func41 #[.slice A0 l0.length c0] ?_; (with_reducible refine (spec_scGood.calls k _ _ l0 false _ ?_ ?_ A2.out).mono ?_); exact (Z10 HR0); exact HC0.out; rintro e w' ⟨rfl, ⟨nd, rfl⟩⟩; refine ⟨_, rfl, ?_⟩)
 go_ret2
 exact ⟨Z11, Z14⟩

/-! ### impl_sameSize: function 49 -/
def impl_sameSize.f (k : Nat) (l0 : List ByteArray) (l1 : List ByteArray) : Option (Bool) := (impl_IsScan.f k l0).bind fun sF => (if sF = true then ((impl_IsScan.f k l1).bind fun sG => (if sG = true then (if (l0.length : Int) = (l1.length : Int) then (if 0 < (l0.length : Int) then (if 0 < (l1.length : Int) then (some (((rdOf ByteArray.empty l0 0).size : Int) == ((rdOf ByteArray.empty l1 0).size : Int))) else (none)) else (none)) else (some false)) else (some false))) else (some false))
theorem impl_sameSize.mono : ∀ a0 a1 k, LeO (impl_sameSize.f k a0 a1) (impl_sameSize.f (k + 1) a0 a1) := by
 intro a0 a1 k
 unfold impl_sameSize.f
 exact mo17_
set_option maxHeartbeats 8000000 in
set_option maxRecDepth 100000 in
theorem impl_sameSize.calls (k : Nat) (A0 : Option Addr) (c0 : Nat) (l0 : List ByteArray) (A1 : Option Addr) (c1 : Nat) (l1 : List ByteArray) (r : Bool) (w : World) (hr0 : Kd.C Kd.string w A0 l0.length l0) (hc0 : l0.length ≤ c0) (hr1 : Kd.C Kd.string w A1 l1.length l1) (hc1 : l1.length ≤ c1) (h : impl_sameSize.f k l0 l1 = some r) :
  Calls Tryz.prog 49 #[.slice A0 l0.length c0, .slice A1 l1.length c1] w fun e w' => e = .returned (.bool r) ∧ Drawn0 w w' := by
 have HR0 := Aside0.mk hr0
 have HC0 := Aside0.mk hc0
 clear hr0 hc0
 have HR1 := Aside0.mk hr1
 have HC1 := Aside0.mk hc1
 clear hr1 hc1
 have H : ((impl_IsScan.f k l0).bind fun sF => (if sF = true then ((impl_IsScan.f k l1).bind fun sG => (if sG = true then (if (l0.length : Int) = (l1.length : Int) then (if 0 < (l0.length : Int) then (if 0 < (l1.length : Int) then (some (((rdOf ByteArray.empty l0 0).size : Int) == ((rdOf ByteArray.empty l1 0).size : Int))) else (none)) else (none)) else (some false)) else (some false))) else (some false))) = some r := h
 clear h
 obtain ⟨sF, A3, H⟩ := bd_ H
 (try dsimp only at H)
 by_cases c4 : sF = true
 ·subst c4
  rw [if_pos rfl] at H
  obtain ⟨sG, A5, H⟩ := bd_ H
  (try dsimp only at H)
  by_cases c6 : sG = true
  ·subst c6
   rw [if_pos rfl] at H
   by_cases c7 : (l0.length : Int) = (l1.length : Int)
   ·rw [if_pos c7] at H
    have cd : ((l0.length : Int) == (l1.length : Int)) = true := beq_iff_eq.mpr c7
    have qO : ((l0.length : Int) != (l1.length : Int)) = false := bne_eq_false_iff_eq.mpr c7
    have c7b2 : (l0.length == l1.length) = true := by first | simpa using c7 | (simp at c7 ⊢; omega)
    clear c7
    by_cases c8 : 0 < (l0.length : Int)
    case neg => rw [if_neg c8] at H; exact absurd H (by simp)
    rw [if_pos c8] at H
    have ep : decide (0 < (l0.length : Int)) = true := decide_eq_true c8
    have qz : decide (0 < l0.length) = true := decide_eq_true (by omega)
    clear c8
    by_cases c9 : 0 < (l1.length : Int)
    case neg => rw [if_neg c9] at H; exact absurd H (by simp)
    rw [if_pos c9] at H
    have gM : decide (0 < (l1.length : Int)) = true := decide_eq_true c9
    have qr : decide (0 < l1.length) = true := decide_eq_true (by omega)
    clear c9
    obtain rfl := Option.some.inj H
    go_enter Tryz.func49, Tryz.ntmps49
    go_wp2_with (fail)
    repeat (go_quiet (first | (go_at_call 10; (with_reducible refine (impl_IsScan.calls k _ _ l0 true _ ?_ ?_ A3.out).mono ?_); exact (Z10 HR0); exact HC0.out; rintro e w' ⟨rfl, ⟨nd, rfl⟩⟩; (try first | exact ⟨rfl, _, World.drewN_drewN _ _ _⟩ | exact ⟨rfl, _, Eq.trans (World.drewN_drewN _ _ _) (congrArg (World.drewN _) (Nat.add_assoc _ _ _))⟩)) | (go_at_call 10; (with_reducible refine (impl_IsScan.calls k _ _ l1 true _ ?_ ?_ A5.out).mono ?_); exact (Z10 HR1); exact HC1.out; rintro e w' ⟨rfl, ⟨nd, rfl⟩⟩; (try first | exact ⟨rfl, _, World.drewN_drewN _ _ _⟩ | exact ⟨rfl, _, Eq.trans (World.drewN_drewN _ _ _) (congrArg (World.drewN _) (Nat.add_assoc _ _ _))⟩); have iY : 0 ≤ (0 : Int) := (by omega); have iZ : 0 < (l0.length : Int) := of_decide_eq_true (Z8); obtain ⟨wa, e634, dX⟩ := Kd.at_string HR0.out 0 iY iZ; cases e634; have qi634 : (0 < l0.length) = True := eq_true (by omega); (try rw [show ((0 : Int)).toNat = 0 from rfl] at dX); (try rw [Addr.add_zero'] at dX); replace iY := eq_true iY; replace iZ := eq_true iZ; have i1 : 0 ≤ (0 : Int) := (by omega); have i2 : 0 < (l1.length : Int) := of_decide_eq_true (Z8); obtain ⟨wb, e635, dY⟩ := Kd.at_string HR1.out 0 i1 i2; cases e635; have qi635 : (0 < l1.length) = True := eq_true (by omega); (try rw [show ((0 : Int)).toNat = 0 from rfl] at dY); (try rw [Addr.add_zero'] at dY); replace i1 := eq_true i1; replace i2 := eq_true i2)); try go_wp2_with (fail))
    go_ret
    exact ⟨Z11, Z14⟩
   rw [if_neg c7] at H
   have cd : ((l0.length : Int) == (l1.length : Int)) = false := beq_eq_false_iff_ne.mpr c7
   have qO : ((l0.length : Int) != (l1.length : Int)) = true := bne_iff_ne.mpr c7
   have c7b2 : (l0.length == l1.length) = false := by first | simpa using c7 | (simp at c7 ⊢; omega)
   obtain rfl := Option.some.inj H
   go_enter Tryz.func49, Tryz.ntmps49
   go_wp2_with (fail)
   repeat (go_quiet (first | (go_at_call 10; (with_reducible refine (impl_IsScan.calls k _ _ l0 true _ ?_ ?_ A3.out).mono ?_); exact (Z10 HR0); exact HC0.out; rintro e w' ⟨rfl, ⟨nd, rfl⟩⟩; (try first | exact ⟨rfl, _, World.drewN_drewN _ _ _⟩ | exact ⟨rfl, _, Eq.trans (World.drewN_drewN _ _ _) (congrArg (World.drewN _) (Nat.add_assoc _ _ _))⟩)) | (go_at_call 10; (with_reducible refine (impl_IsScan.calls k _ _ l1 true _ ?_ ?_ A5.out).mono ?_); exact (Z10 HR1); exact HC1.out; rintro e w' ⟨rfl, ⟨nd, rfl⟩⟩; (try first | exact ⟨rfl, _, World.drewN_drewN _ _ _⟩ | exact ⟨rfl, _, Eq.trans (World.drewN_drewN _ _ _) (congrArg (World.drewN _) (Nat.add_assoc _ _ _))⟩))); try go_wp2_with (fail))
   go_ret
   exact ⟨Z11, Z14⟩
  replace c6 := Bool.eq_false_iff.mpr c6
  subst c6
  rw [if_neg (show ¬ (false = true) by decide)] at H
  obtain rfl := Option.some.inj H
  go_enter Tryz.func49, Tryz.ntmps49
  go_wp2_with (fail)
  repeat (go_quiet (first | (go_at_call 10; (with_reducible refine (impl_IsScan.calls k _ _ l0 true _ ?_ ?_ A3.out).mono ?_); exact (Z10 HR0); exact HC0.out; rintro e w' ⟨rfl, ⟨nd, rfl⟩⟩; (try first | exact ⟨rfl, _, World.drewN_drewN _ _ _⟩ | exact ⟨rfl, _, Eq.trans (World.drewN_drewN _ _ _) (congrArg (World.drewN _) (Nat.add_assoc _ _ _))⟩)) | (go_at_call 10; (with_reducible refine (impl_IsScan.calls k _ _ l1 false _ ?_ ?_ A5.out).mono ?_); exact (Z10 HR1); exact HC1.out; rintro e w' ⟨rfl, ⟨nd, rfl⟩⟩; (try first | exact ⟨rfl, _, World.drewN_drewN _ _ _⟩ | exact ⟨rfl, _, Eq.trans (World.drewN_drewN _ _ _) (congrArg (World.drewN _) (Nat.add_assoc _ _ _))⟩))); try go_wp2_with (fail))
  go_ret
  exact ⟨Z11, Z14⟩
 replace c4 := Bool.eq_false_iff.mpr c4
 subst c4
 rw [if_neg (show ¬ (false = true) by decide)] at H
 obtain rfl := Option.some.inj H
 go_enter Tryz.func49, Tryz.ntmps49
 go_wp2_with (fail)
 repeat (go_quiet ((go_at_call 10; (with_reducible refine (impl_IsScan.calls k _ _ l0 false _ ?_ ?_ A3.out).mono ?_); exact (Z10 HR0); exact HC0.out; rintro e w' ⟨rfl, ⟨nd, rfl⟩⟩; (try first | exact ⟨rfl, _, World.drewN_drewN _ _ _⟩ | exact ⟨rfl, _, Eq.trans (World.drewN_drewN _ _ _) (congrArg (World.drewN _) (Nat.add_assoc _ _ _))⟩))); try go_wp2_with (fail))
 go_ret
 exact ⟨Z11, Z14⟩

end Go.Proofs.YtcpbncljimmkfaaGreatDoor.PFnScans
