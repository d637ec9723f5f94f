-- written by a program of this session: the kit's print, with outer functions of the session's own (wip/ext)
import Derived.Test.YtcpbncljimmkfaaGreatDoorPFnScansx0
import Derived.Test.YtcpbncljimmkfaaGreatDoorPFnScansx7
namespace Go.Proofs.YtcpbncljimmkfaaGreatDoor.PFnScans
open Go.RowKit Go.Proofs.YtcpbncljimmkfaaGreatDoorW.PrintWords Go.Proofs.YtcpbncljimmkfaaGreatDoorW.PrintLast Go.Proofs.YtcpbncljimmkfaaGreatDoorW.PrintMore
attribute [local go_sem] max2_int min2_int max_two min_two max_three min_three max_four min_four   -- for this text's walks alone
set_option linter.unusedVariables false
set_option linter.unusedSimpArgs false
theorem mo8_ {p : Prop} (h : p := by repeat' first | (with_reducible first | apply ih0 | apply ih0 | apply ih1 | apply ih1 | exact LeO.refl _ | exact LeO.none _ | refine LeO.ite ?_ ?_ | refine LeO.bind ?_ (fun _ => ?_)) | exact LeO.none _ | refine LeO.ite ?_ ?_ | refine LeO.bind ?_ (fun _ => ?_)) : p := h

/-! ### impl_drawnW: function 29: by this session -/
theorem gate_valuecall {P : Program} {ops : Array Oper} {Q : Exit → Act → World → Prop} {rest : List Oper} {o : Oper} {a : Act} {W : World} {s : Tmp} {as_ : Array Operand} {ts : Array TypeId} (_ho : o.op = .call { callee := .value (.tmp s), args := as_, argTypes := ts }) (h : wpList P ops Q (o :: rest) a W) : wpList P ops Q (o :: rest) a W := h
/-- A call of a function value in a plain region. -/
theorem goesV_ {P : Program} {ops : Array Oper} {Q : Exit → Act → World → Prop} {rest : List Oper} {oi : Oper} {a : Act} {w : World} (N : Option Tmp) (hd : oi.dst = N) (hg : oi.guard = none) {f : FuncId} {fn : Func} {s : Tmp} {as_ : Array Operand} {ts : Array TypeId} (hf : P.funcs[f]? = some fn) (hname : (fn.name == "runtime.NumGoroutine") = false) (hb : fn.body.isSome = true) (args caps : Array Value)
  (hop : oi.op = .call { callee := .value (.tmp s), args := as_, argTypes := ts }) (hv : a.eval (.tmp s) = .func (.func f) #[] caps) (hargs : as_.map a.eval = args)
  (h : Calls P f (args ++ caps) w fun e w' => ∃ v, e = .returned v ∧ wpList P ops Q rest (a.put N v) w') : wpList P ops Q (oi :: rest) a w := by
 refine wpList_plain hg fun K hK => ?_
 have he := enters_ hf hname hb (args ++ caps) w
 have hrun : (execOp a.eval oi).run P w = .ok (.enter f (args ++ caps)) w := by
  unfold execOp
  simp [hop, resolve, Deferred.ofValue, hv, invoke, hargs, he]
 unfold Oper.wp
 rw [hrun, Oper.upon_enter]
 refine h.mono fun e w'' hh => ?_
 obtain ⟨v, rfl, hk⟩ := hh
 subst hd
 exact hK _ _ hk
mutual
def impl_drawn.l0 (F : Int → Int → Option Int) : Nat → Int → Int → List ByteArray → Int → Option (List ByteArray)
 | 0, _, _, _, _ => none
 | k + 1, x0, x1, x7, x8 => if x8 < x0 then (if 0 ≤ x1 then (if (x1 : Int).toNat ≤ 281474976710656 then ((some (List.replicate (x1 : Int).toNat 0 : List Int)).bind fun ii => (impl_drawn.l1 F k x0 x1 x7 x8 ii (ii.length : Int) 0)) else (none)) else (none)) else (some x7)
def impl_drawn.l1 (F : Int → Int → Option Int) : Nat → Int → Int → List ByteArray → Int → List Int → Int → Int → Option (List ByteArray)
 | 0, _, _, _, _, _, _, _ => none
 | k + 1, x0, x1, x7, x8, x9, x20, x21 => if x21 < x20 then ((F x8 x21).bind fun rp => (if 0 ≤ x21 then (if x21 < (x9.length : Int) then (impl_drawn.l1 F k x0 x1 x7 x8 (x9.set (x21 : Int).toNat rp) x20 (wrap64 (x21 + 1))) else (none)) else (none))) else (if x7.length < 8796093022208 then (impl_drawn.l0 F k x0 x1 (x7 ++ [strOfNums x9]) (wrap64 (x8 + 1))) else (none))
end
def impl_drawn.f (F : Int → Int → Option Int) (k : Nat) (a0 : Int) (a1 : Int) : Option (List ByteArray) := impl_drawn.l0 F k a0 a1 (([] : List ByteArray)) 0
theorem impl_drawn.mono_l (F : Int → Int → Option Int) : ∀ k, (∀ y0 y1 y2 y3, LeO (impl_drawn.l0 F k y0 y1 y2 y3) (impl_drawn.l0 F (k + 1) y0 y1 y2 y3)) ∧ (∀ y0 y1 y2 y3 y4 y5 y6, LeO (impl_drawn.l1 F k y0 y1 y2 y3 y4 y5 y6) (impl_drawn.l1 F (k + 1) y0 y1 y2 y3 y4 y5 y6))
 | 0 => ⟨fun _ _ _ _ r h => by simp [impl_drawn.l0] at h, fun _ _ _ _ _ _ _ r h => by simp [impl_drawn.l1] at h⟩
 | k + 1 => by
  obtain ⟨ih0, ih1⟩ := impl_drawn.mono_l F k
  refine ⟨?_, ?_⟩
  ·intro y0 y1 y2 y3
   unfold impl_drawn.l0
   exact mo8_
  intro y0 y1 y2 y3 y4 y5 y6
  unfold impl_drawn.l1
  exact mo8_
theorem impl_drawn.mono (F : Int → Int → Option Int) : ∀ a0 a1 k, LeO (impl_drawn.f F k a0 a1) (impl_drawn.f F (k + 1) a0 a1) := by
 intro a0 a1 k
 obtain ⟨ih0, ih1⟩ := impl_drawn.mono_l F k
 unfold impl_drawn.f
 exact mo8_
theorem impl_drawn.mono2_l (F G : Int → Int → Option Int) (hFG : ∀ a b, LeO (F a b) (G a b)) : ∀ k, (∀ y0 y1 y2 y3, LeO (impl_drawn.l0 F k y0 y1 y2 y3) (impl_drawn.l0 G (k + 1) y0 y1 y2 y3)) ∧ (∀ y0 y1 y2 y3 y4 y5 y6, LeO (impl_drawn.l1 F k y0 y1 y2 y3 y4 y5 y6) (impl_drawn.l1 G (k + 1) y0 y1 y2 y3 y4 y5 y6))
 | 0 => ⟨fun _ _ _ _ r h => by simp [impl_drawn.l0] at h, fun _ _ _ _ _ _ _ r h => by simp [impl_drawn.l1] at h⟩
 | k + 1 => by
  obtain ⟨ih0, ih1⟩ := impl_drawn.mono2_l F G hFG k
  refine ⟨?_, ?_⟩
  ·intro y0 y1 y2 y3
   unfold impl_drawn.l0
   repeat' first
   | (with_reducible exact ih0 _ _ _ _)
   | (with_reducible exact ih1 _ _ _ _ _ _ _)
   | (with_reducible exact hFG _ _)
   | (with_reducible exact LeO.refl _)
   | (with_reducible exact LeO.none _)
   | (with_reducible refine LeO.ite ?_ ?_)
   | (with_reducible refine LeO.bind ?_ (fun _ => ?_))
   | exact ih0 _ _ _ _
   | exact ih1 _ _ _ _ _ _ _
   | exact LeO.none _
   | refine LeO.ite ?_ ?_
   | refine LeO.bind ?_ (fun _ => ?_)
  intro y0 y1 y2 y3 y4 y5 y6
  unfold impl_drawn.l1
  repeat' first
  | (with_reducible exact ih0 _ _ _ _)
  | (with_reducible exact ih1 _ _ _ _ _ _ _)
  | (with_reducible exact hFG _ _)
  | (with_reducible exact LeO.refl _)
  | (with_reducible exact LeO.none _)
  | (with_reducible refine LeO.ite ?_ ?_)
  | (with_reducible refine LeO.bind ?_ (fun _ => ?_))
  | exact ih0 _ _ _ _
  | exact ih1 _ _ _ _ _ _ _
  | exact LeO.none _
  | refine LeO.ite ?_ ?_
  | refine LeO.bind ?_ (fun _ => ?_)
theorem impl_drawn.mono2 (F G : Int → Int → Option Int) (hFG : ∀ a b, LeO (F a b) (G a b)) : ∀ a0 a1 k, LeO (impl_drawn.f F k a0 a1) (impl_drawn.f G (k + 1) a0 a1) := by
 intro a0 a1 k
 obtain ⟨ih0, ih1⟩ := impl_drawn.mono2_l F G hFG k
 unfold impl_drawn.f
 exact mo8_
set_option maxHeartbeats 8000000 in
set_option maxRecDepth 100000 in
theorem impl_drawn.calls (F : Int → Int → Option Int) (cf : FuncId) (fn : Func) (caps : Array Value) (hcf : Tryz.prog.funcs[cf]? = some fn) (hcn : (fn.name == "runtime.NumGoroutine") = false) (hcb : fn.body.isSome = true) (k : Nat) (a0 : Int) (a1 : Int) (r : List ByteArray) (w : World)
  (hF : ∀ (a b r : Int) (W : World), Below w.heap.size w W → F a b = some r → Calls Tryz.prog cf (#[.int .i64 a, .int .i64 b] ++ caps) W fun e w' => e = .returned (.int .u8 r) ∧ Below W.heap.size W w') (h : impl_drawn.f F k a0 a1 = some r) :
  Calls Tryz.prog 29 #[.int .i64 a0, .int .i64 a1, .func (.func cf) #[] caps] w fun e w' => ∃ v0_ : Value, e = .returned (v0_) ∧ Kd.R Kd.string 9 w' w.heap.size (fun _ => True) v0_ r ∧ Below w.heap.size w w' := by
 have HB := Aside0.mk (Below.refl w.heap.size w)
 have HF := Aside0.mk hF
 have HCF := Aside0.mk hcf
 have HCN := Aside0.mk hcn
 have HCB := Aside0.mk hcb
 clear hF hcf hcn hcb
 have H : (impl_drawn.l0 F k a0 a1 (([] : List ByteArray)) 0) = some r := h
 clear h
 obtain ⟨Ci, oq⟩ : ∃ y_ : List ByteArray, y_ = (([] : List ByteArray)) := ⟨_, rfl⟩
 replace H : (impl_drawn.l0 F k a0 a1 Ci 0) = some r := by first | (rw [oq]; with_reducible exact H) | (have H2_ := (Option.bind_some _ _).symm.trans H; rw [oq]; with_reducible exact H2_) | (have H2_ := (Option.bind_some _ _).symm.trans H; with_reducible exact H2_) | with_reducible exact H | (rw [oq]; exact H) | exact H
 have xL := Aside0.mk oq
 clear oq
 have H' := Aside0.mk H
 clear H
 go_enter Tryz.func29, Tryz.ntmps29
 go_wp2_with ((with_reducible refine gate_dst (N := 11) rfl ?_); refine Kd.R_lit Kd.string _ 9 ?hg (N := 11) ?hd (xs := ([] : List ByteArray)) (inner := []) (ok := fun _ => True) (okp := fun _ => True) ?hr ?hp (fun _ hk => hk) trivial (Below.refl _ _) (Nat.le_refl _) (by simp) ?_; (case hd => rfl); (case hg => rfl); (case hr => exact Z41); (case hp => exact (Reps.none _ _)); intro v133 w3 ho4 hb hg_ hnew_; clear hg_ hnew_; (first | rw [← xL.out] at ho4 | (simp only [Int.reduceToNat] at ho4; rw [← xL.out] at ho4)); refine k2_ (Kd.R_lower ho4 (below_size (Z2))) (below_step (Z2) hb) ?_; clear HB; intro HO134 HB; clear hb ho4)
 (try simp only [Act.put, List.setIfInBounds_toArray, List.set_cons_zero, List.set_cons_succ])
 go_loopg [7, 8] k (fun kq v7 v8 w' => ∃ (cl : List ByteArray) (aI : Int), v8 = .int .i64 aI ∧ Aside0 (impl_drawn.l0 F kq a0 a1 cl aI = some r) ∧ Aside0 (kq ≤ k) ∧ Aside0 (Kd.R Kd.string 9 w' w.heap.size (fun _ => True) v7 cl) ∧ Aside0 (Below w.heap.size w w'))
 case atStart => exact ⟨(Ci), (0), (Z11), H', ⟨Nat.le_refl _⟩, ⟨Z3 HO134⟩, ⟨Z2⟩⟩
 case round =>
  clear H'
  obtain ⟨cl, aI, rfl, HA, HK1, cV, HB⟩ := hrel
  cases gk with
  | zero => exact absurd HA.out (by simp [impl_drawn.l0])
  | succ k1 =>
   have H := HA.out
   clear HA
   simp only [impl_drawn.l0] at H
   by_cases c5 : aI < a0
   ·rw [if_pos c5] at H
    have ci : decide (aI < a0) = true := decide_eq_true c5
    clear c5
    by_cases c6 : 0 ≤ a1
    case neg => rw [if_neg c6] at H; exact absurd H (by simp)
    rw [if_pos c6] at H
    have ck := eq_true c6
    have gN : decide (0 ≤ a1) = true := decide_eq_true c6
    clear c6
    by_cases c7 : (a1 : Int).toNat ≤ 281474976710656
    case neg => rw [if_neg c7] at H; exact absurd H (by simp)
    rw [if_pos c7] at H
    have cd := eq_true c7
    have qO : decide ((a1 : Int).toNat ≤ 281474976710656) = true := decide_eq_true c7
    clear c7
    obtain ⟨ii, ot⟩ : ∃ y_ : List Int, y_ = (List.replicate (a1 : Int).toNat 0) := ⟨_, rfl⟩
    replace H : (impl_drawn.l1 F k1 a0 a1 cl aI ii (ii.length : Int) 0) = some r := by first | (rw [ot]; with_reducible exact H) | (have H2_ := (Option.bind_some _ _).symm.trans H; rw [ot]; with_reducible exact H2_) | (have H2_ := (Option.bind_some _ _).symm.trans H; with_reducible exact H2_) | with_reducible exact H | (rw [ot]; exact H) | exact H
    have xM := Aside0.mk ot
    clear ot
    have H' := Aside0.mk H
    clear H
    go_wp2_with ((with_reducible refine gate_dst (N := 18) rfl ?_); refine Kd.R_make (Kd.int .u8) _ 5 rfl (N := 18) rfl 22 _ _ rfl a1 rfl rfl Tryz.underlying22 (.int .u8 0) 1 info5 rfl (by decide) (by omega) 0 (ok := fun _ => True) (okp := fun _ => True) rfl (fun _ hk => hk) trivial (of_decide_eq_true (Z8)) (Nat.le_trans (Nat.mul_le_mul_right _ (of_decide_eq_true (Z8) : a1.toNat ≤ 281474976710656)) (by omega)) (Below.refl _ _) (Nat.le_refl _) ?_; intro v136 w8 ho9 hb hg_ hnew_; clear hg_ hnew_; (first | rw [← xM.out] at ho9 | (simp only [Int.reduceToNat] at ho9; rw [← xM.out] at ho9)); refine k3_ (Ya_ cV) (Kd.R_lower ho9 (below_size (Z2))) (below_step (Z2) hb) ?_; clear cV HB; intro cV xN HB; clear hb ho9; obtain ⟨lN, hY, jT⟩ := Kd.R_slice xN.out; subst jT)
    (try simp only [Act.put, List.setIfInBounds_toArray, List.set_cons_zero, List.set_cons_succ])
    go_loopg [21] k1 (fun kq CD w' => ∃ (bB : List Int) (b3 : Int), CD = .int .i64 b3 ∧ Aside0 (impl_drawn.l1 F kq a0 a1 cl aI bB (ii.length : Int) b3 = some r) ∧ Aside0 (kq ≤ k1) ∧ Aside0 (Kd.R Kd.string 9 w' w.heap.size (fun _ => True) u7 cl) ∧ Aside0 (Kd.R (Kd.int .u8) 5 w' w.heap.size (fun _ => True) (.slice lN ii.length hY) bB) ∧ Aside0 (Below w.heap.size w w'))
    case atStart => exact ⟨(ii), (0), (Z11), H', ⟨Nat.le_refl _⟩, ⟨Z3 cV⟩, ⟨Z3 xN⟩, ⟨Z2⟩⟩
    case round =>
     clear H'
     (try clear c5); (try clear ci); (try clear c6); (try clear ck); (try clear gN); (try clear c7); (try clear cd); (try clear qO)
     obtain ⟨bB, b3, rfl, HA, HK2, cV, cW, HB⟩ := hrel
     have hl9_2 := (Kd.R_reads' cW.out).1
     rw [hl9_2] at cW
     (try simp only [hl9_2])
     (try simp only [hl9_2] at cV)
     cases gk with
     | zero => exact absurd HA.out (by simp [impl_drawn.l1])
     | succ k2 =>
      have H := HA.out
      clear HA
      simp only [impl_drawn.l1] at H
      by_cases c11 : b3 < (ii.length : Int)
      ·rw [if_pos c11] at H
       have eM : decide (b3 < (ii.length : Int)) = true := decide_eq_true c11
       clear c11
       obtain ⟨rp, vU, H⟩ := bd_ H
       (try dsimp only at H)
       by_cases c13 : 0 ≤ b3
       case neg => rw [if_neg c13] at H; exact absurd H (by simp)
       rw [if_pos c13] at H
       have cq : decide (0 ≤ b3) = true := decide_eq_true c13
       clear c13
       by_cases c14 : b3 < (bB.length : Int)
       case neg => rw [if_neg c14] at H; exact absurd H (by simp)
       rw [if_pos c14] at H
       have ee : decide (b3 < (bB.length : Int)) = true := decide_eq_true c14
       clear c14
       obtain ⟨zJ, ou⟩ : ∃ y_ : List Int, y_ = (bB.set (b3 : Int).toNat rp) := ⟨_, rfl⟩
       replace H : (impl_drawn.l1 F k2 a0 a1 cl aI zJ (ii.length : Int) (wrap64 (b3 + 1))) = some r := by first | (rw [ou]; with_reducible exact H) | (have H2_ := (Option.bind_some _ _).symm.trans H; rw [ou]; with_reducible exact H2_) | (have H2_ := (Option.bind_some _ _).symm.trans H; with_reducible exact H2_) | with_reducible exact H | (rw [ou]; exact H) | exact H
       have Ny139 := Aside0.mk ou
       clear ou
       have H' := Aside0.mk H
       clear H
       go_wp2_with (first | ((with_reducible refine gate_valuecall (s := 26) rfl ?_); refine goesV_ (some 29) rfl rfl HCF.out HCN.out HCB.out #[.int .i64 aI, .int .i64 b3] caps rfl (by rfl) (Z46) ?_; (with_reducible refine (HF.out aI b3 rp wr (Z2) vU.out).mono ?_); rintro e mx ⟨rfl, hb⟩; refine ⟨_, rfl, ?_⟩; refine k3_ (Ya_ cV) (Ya_ cW) (below_step (Z2) hb) ?_; clear cV cW HB; intro cV cW HB; (try clear hb); have CY : 0 ≤ (b3 : Int) := of_decide_eq_true (Z8); have CZ : (b3 : Int) < ((bB.length : Int) : Int) := of_decide_eq_true (Z8); obtain ⟨go15, pj, jl, Cj, gl15, cl15, HG15⟩ := Kd.R_form cW.out (by omega); (first | cases jl | (injection jl with ea_ en_ ec_; (first | subst ea_ | (injection ea_ with ea_; subst ea_)); subst ec_; clear en_)); have GB15 := Aside0.mk Cj; have GG15 := Aside0.mk HG15; clear Cj gl15 HG15; obtain ⟨hx15_0, hf15_0⟩ := Kd.R_celln 0 cW.out (b3 : Int) CY CZ; replace CY := eq_true CY; replace CZ := eq_true CZ; obtain ⟨hy17_, hz17_⟩ := Kd.R_celln 0 cW.out (b3 : Int) (of_decide_eq_true (Z8)) (of_decide_eq_true (Z8)); have HP17 := Kd.R_putg cW.out (b3 : Int) rp) | ((with_reducible refine gate_store (t := 5) (p := 30) rfl ?_); refine store_event (t := 5) (p := 30) (v := ?vo_w18) (w1 := (mx.setCell ⟨go15, (b3 : Int).toNat, none⟩ (.int .u8 rp))) ?hg ?ho ?hn ?hr ?_; (case ho => rfl); (case hg => rfl); (case hn => rfl); (case hr => exact Z41); intro yy hw; have hg : mx.grownBy yy (some go15) := (by rw [hw]; exact HP17.2); have hp_ : Kd.R (Kd.int .u8) 5 yy w.heap.size (fun _ => True) (.slice (some ⟨go15, 0, none⟩) bB.length hY) zJ := (by rw [hw, Ny139.out]; exact HP17.1); clear HP17; refine k3_ (Kd.R_over' (v := (.slice (some ⟨go15, 0, none⟩) bB.length hY)) (Z3 cV) (Kd.R_typed cW.out) (by decide) hg) (hp_) ((by rw [hw]; exact below_set (HB.out) GB15.out : Below w.heap.size w yy)) ?_; clear cV cW HB; intro cV cW HB; clear hg hw hp_))
       (try simp only [← hl9_2])
       go_roundg k2
       case measure => have := HK1.out; have := HK2.out; omega
       case rel => exact ⟨(zJ), (wrap64 (b3 + 1)), (Z11), H', ⟨Z50⟩, ⟨Z100 cV⟩, ⟨Z100 cW⟩, ⟨Z2⟩⟩
      rw [if_neg c11] at H
      have eM : decide (b3 < (ii.length : Int)) = false := decide_eq_false c11
      have c11b9 : decide (b3 < (bB.length : Int)) = false := by rw [← hl9_2]; exact eM
      clear c11
      by_cases c19 : cl.length < 8796093022208
      case neg => rw [if_neg c19] at H; exact absurd H (by simp)
      rw [if_pos c19] at H
      have tz := Aside0.mk c19
      clear c19
      obtain ⟨dI, fk⟩ : ∃ y_ : List ByteArray, y_ = (cl ++ [strOfNums bB]) := ⟨_, rfl⟩
      replace H : (impl_drawn.l0 F k2 a0 a1 dI (wrap64 (aI + 1))) = some r := by first | (rw [fk]; with_reducible exact H) | (have H2_ := (Option.bind_some _ _).symm.trans H; rw [fk]; with_reducible exact H2_) | (have H2_ := (Option.bind_some _ _).symm.trans H; with_reducible exact H2_) | with_reducible exact H | (rw [fk]; exact H) | exact H
      have nD := Aside0.mk fk
      clear fk
      have H' := Aside0.mk H
      clear H
      have hcv20 := own_string (P := Tryz.prog) Tryz.underlying22 Tryz.underlying5 Tryz.underlying9 (Kd.own_of_R cW.out)
      go_wp2_with ((with_reducible refine gate_builtin (b := .append) (xs := #[.tmp 32, .tmp 35]) rfl ?_); at_builtin; refine Kd.R_append Kd.string (w0 := w) w.heap.size rfl (.tmp 32) (.tmp 35) 27 9 (.string ⟨#[]⟩) 16 rfl Tryz.underlying27 info9 rfl (by decide) (by omega) u7 cl (strOfNums bB) [.string (strOfNums bB)] (fun _ => True) (fun _ => False) rfl rfl ?aP (fun _ hk => hk.elim) ?aF ?aO ?aB ?aS ?aL ?_; (case aP => exact rfl); (case aB => exact Z2); (case aF => exact (fun _ _ => trivial)); (case aO => exact (Z3 cV)); (case aS => exact (below_size (Z2))); (case aL => exact Z83 tz); intro ju vP ho hb hg hat; rw [← nD.out] at ho; refine k3_ (Kd.R_over' (Z3 cW) (Kd.R_typed (Z3 cV)) (by decide) hg) (hb) (ho) ?_; clear cW HB cV; intro cW HB dN; clear ho hb hg hat)
      (try simp only [← hl9_2])
      go_roundg k2
      case measure => have := HK1.out; have := HK2.out; omega
      case rel => exact ⟨(dI), (wrap64 (aI + 1)), (Z11), H', ⟨Z50⟩, ⟨Z100 dN⟩, ⟨Z2⟩⟩
   rw [if_neg c5] at H
   have ci : decide (aI < a0) = false := decide_eq_false c5
   clear c5
   obtain rfl := Option.some.inj H
   go_wp2
   go_ret
   exact ⟨_, Z9, Z3 cV, Z2⟩
def impl_drawnW.f (k : Nat) (a0 : Int) (a1 : Int) (F : Int → Int → Option Int) : Option (List ByteArray) := impl_drawn.f F k a0 a1
theorem impl_drawnW.mono : ∀ a0 a1 F k, LeO (impl_drawnW.f k a0 a1 F) (impl_drawnW.f (k + 1) a0 a1 F) := fun a0 a1 F k => impl_drawn.mono F a0 a1 k
theorem impl_drawnW.calls (k : Nat) (a0 : Int) (a1 : Int) (cf : FuncId) (fn : Func) (caps : Array Value) (hcf : Tryz.prog.funcs[cf]? = some fn) (hcn : (fn.name == "runtime.NumGoroutine") = false) (hcb : fn.body.isSome = true) (F : Int → Int → Option Int) (r : List ByteArray) (w : World)
  (hF : ∀ (a b r : Int) (W : World), Below w.heap.size w W → F a b = some r → Calls Tryz.prog cf (#[.int .i64 a, .int .i64 b] ++ caps) W fun e w' => e = .returned (.int .u8 r) ∧ Below W.heap.size W w') (h : impl_drawnW.f k a0 a1 F = some r) :
  Calls Tryz.prog 29 #[.int .i64 a0, .int .i64 a1, .func (.func cf) #[] caps] w fun e w' => ∃ v0_ : Value, e = .returned (v0_) ∧ Kd.R Kd.string 9 w' w.heap.size (fun _ => True) v0_ r ∧ Below w.heap.size w w' :=
 impl_drawn.calls F cf fn caps hcf hcn hcb k a0 a1 r w hF h
theorem impl_drawnW.mono2 (F G : Int → Int → Option Int) (h : ∀ a b, LeO (F a b) (G a b)) : ∀ a0 a1 k, LeO (impl_drawnW.f k a0 a1 F) (impl_drawnW.f (k + 1) a0 a1 G) := fun a0 a1 k => impl_drawn.mono2 F G h a0 a1 k

/-! ### impl_isOpen: function 31 -/
def impl_isOpen.f (a0_0 : Int) (a0_1 : Int) (a0_2 : Int) (a1 : Int) : Option (Bool) := if a0_1 ≤ a1 then (some (decide (a1 < a0_2))) else (some false)
set_option maxHeartbeats 8000000 in
set_option maxRecDepth 100000 in
theorem impl_isOpen.calls (a0_0 : Int) (a0_1 : Int) (a0_2 : Int) (a1 : Int) (r : Bool) (w : World) (h : impl_isOpen.f a0_0 a0_1 a0_2 a1 = some r) :
  Calls Tryz.prog 31 #[.agg #[.int .i64 a0_0, .int .i64 a0_1, .int .i64 a0_2], .int .i64 a1] w fun e w' => e = .returned (.bool r) ∧ Below w.heap.size w w' := by
 have hu55 := Tryz.underlying55
 have HB := Aside0.mk (Below.refl w.heap.size w)
 have H : (if a0_1 ≤ a1 then (some (decide (a1 < a0_2))) else (some false)) = some r := h
 clear h
 by_cases c3 : a0_1 ≤ a1
 ·rw [if_pos c3] at H
  have bA : decide (a0_1 ≤ a1) = true := decide_eq_true c3
  clear c3
  obtain rfl := Option.some.inj H
  go_enter Tryz.func31, Tryz.ntmps31
  go_wp2_with ((with_reducible refine gate_dst (N := 2) rfl ?_); refine bv_ 2 55 #[.int .i64 a0_0, .int .i64 a0_1, .int .i64 a0_2] ?_; intro ov hg w4 hbox hb; refine k4_ (below_step (Z2) hb) (hbox) ((Z33 : w.heap.size ≤ ov)) ((Z33 : w.heap.size ≤ ov)) ?_; clear HB; intro HB tV GW352 vH; clear hb hbox hg; obtain ⟨hcz5_0, hcz5_1, hcz5_2, hfz5_0, hfz5_1, hfz5_2⟩ := bx3_ (w := w4) tV.out)
  go_ret
  exact ⟨Z9, Z105⟩
 rw [if_neg c3] at H
 have bA : decide (a0_1 ≤ a1) = false := decide_eq_false c3
 clear c3
 obtain rfl := Option.some.inj H
 go_enter Tryz.func31, Tryz.ntmps31
 go_wp2_with ((with_reducible refine gate_dst (N := 2) rfl ?_); refine bv_ 2 55 #[.int .i64 a0_0, .int .i64 a0_1, .int .i64 a0_2] ?_; intro ov hg w6 hbox hb; refine k4_ (below_step (Z2) hb) (hbox) ((Z33 : w.heap.size ≤ ov)) ((Z33 : w.heap.size ≤ ov)) ?_; clear HB; intro HB tV GW352 vH; clear hb hbox hg; obtain ⟨je, jf, jg, jh, ji, jj⟩ := bx3_ (w := w6) tV.out)
 go_ret
 exact ⟨Z9, Z105⟩

/-! ### impl_ScanOf_1: function 30 -/
def impl_ScanOf_1.l0 : Nat → Int → Int → List (S55) → Int → Int → Option (Int)
 | 0, _, _, _, _, _ => none
 | k + 1, x0, x1, x8, x9, x10 => if x10 < x9 then (if 0 ≤ x10 then (if x10 < (x8.length : Int) then (if ((rd_T55 x8 x10).f0) = x1 then ((impl_isOpen.f ((rd_T55 x8 x10).f0) ((rd_T55 x8 x10).f1) ((rd_T55 x8 x10).f2) x0).bind fun zK => (if zK = true then (some 111) else (impl_ScanOf_1.l0 k x0 x1 x8 x9 (wrap64 (x10 + 1))))) else (impl_ScanOf_1.l0 k x0 x1 x8 x9 (wrap64 (x10 + 1)))) else (none)) else (none)) else (some 46)
def impl_ScanOf_1.f (k : Nat) (a0 : Int) (a1 : Int) (l2 : List (S55)) : Option (Int) := impl_ScanOf_1.l0 k a0 a1 l2 (l2.length : Int) 0
theorem impl_ScanOf_1.mono_l : ∀ k, (∀ y0 y1 y2 y3 y4, LeO (impl_ScanOf_1.l0 k y0 y1 y2 y3 y4) (impl_ScanOf_1.l0 (k + 1) y0 y1 y2 y3 y4))
 | 0 => fun _ _ _ _ _ r h => by simp [impl_ScanOf_1.l0] at h
 | k + 1 => by
  have ih0 := impl_ScanOf_1.mono_l k
  ·intro y0 y1 y2 y3 y4
   unfold impl_ScanOf_1.l0
   exact mo8_
theorem impl_ScanOf_1.mono : ∀ a0 a1 a2 k, LeO (impl_ScanOf_1.f k a0 a1 a2) (impl_ScanOf_1.f (k + 1) a0 a1 a2) := by
 intro a0 a1 a2 k
 have ih0 := impl_ScanOf_1.mono_l k
 unfold impl_ScanOf_1.f
 exact mo8_
set_option maxHeartbeats 8000000 in
set_option maxRecDepth 100000 in
theorem impl_ScanOf_1.calls (k : Nat) (a0 : Int) (a1 : Int) (p2 : Nat) (A2 : Option Addr) (c2 : Nat) (l2 : List (S55)) (r : Int) (w : World) (hr2 : Kd.C k55 w A2 l2.length l2) (hc2 : l2.length ≤ c2) (hb2 : w.heap[p2]? = some (.cells #[.slice A2 l2.length c2] 24 (0, 0))) (h : impl_ScanOf_1.f k a0 a1 l2 = some r) :
  Calls Tryz.prog 30 #[.int .i64 a0, .int .i64 a1, .pointer (some ⟨p2, 0, none⟩)] w fun e w' => e = .returned (.int .u8 r) ∧ Below w.heap.size w w' := by
 have hu24 := Tryz.underlying24
 have hu55 := Tryz.underlying55
 have hu3 := Tryz.underlying3
 have HR2 := Aside0.mk hr2
 have HC2 := Aside0.mk hc2
 clear hr2 hc2
 have HB := Aside0.mk (Below.refl w.heap.size w)
 have cA := Aside0.mk hb2
 clear hb2
 have H : (impl_ScanOf_1.l0 k a0 a1 l2 (l2.length : Int) 0) = some r := h
 clear h
 have H' := Aside0.mk H
 clear H
 obtain ⟨hcz4_0, hfz4_0⟩ := bx1_ (w := w) cA.out
 go_enter Tryz.func30, Tryz.ntmps30
 go_wp2
 go_loopg [10] k (fun kq qu w' => ∃ (aa : Int), qu = .int .i64 aa ∧ Aside0 (impl_ScanOf_1.l0 kq a0 a1 l2 (l2.length : Int) aa = some r) ∧ Aside0 (kq ≤ k) ∧ Aside0 (w'.heap[p2]? = some (.cells #[(.slice A2 l2.length c2)] 24 (0, 0))) ∧ Aside0 (Below w.heap.size w w'))
 case atStart => exact ⟨(0), (Z11), H', ⟨Nat.le_refl _⟩, ⟨Z7 cA⟩, ⟨Z36⟩⟩
 case round =>
  clear H'
  (try clear c2); (try clear p2); (try clear hcz4_0); (try clear hfz4_0)
  obtain ⟨aa, rfl, HA, HK1, cA, HB⟩ := hrel
  cases gk with
  | zero => exact absurd HA.out (by simp [impl_ScanOf_1.l0])
  | succ k1 =>
   have H := HA.out
   clear HA
   simp only [impl_ScanOf_1.l0] at H
   by_cases c5 : aa < (l2.length : Int)
   ·rw [if_pos c5] at H
    have ci : decide (aa < (l2.length : Int)) = true := decide_eq_true c5
    clear c5
    by_cases c6 : 0 ≤ aa
    case neg => rw [if_neg c6] at H; exact absurd H (by simp)
    rw [if_pos c6] at H
    have ck : decide (0 ≤ aa) = true := decide_eq_true c6
    clear c6
    by_cases c7 : aa < (l2.length : Int)
    case neg => rw [if_neg c7] at H; exact absurd H (by simp)
    rw [if_pos c7] at H
    have cd : decide (aa < (l2.length : Int)) = true := decide_eq_true c7
    clear c7
    by_cases c8 : ((rd_T55 l2 aa).f0) = a1
    ·rw [if_pos c8] at H
     have ep : (((rd_T55 l2 aa).f0) == a1) = true := beq_iff_eq.mpr c8
     have qz : (((rd_T55 l2 aa).f0) != a1) = false := bne_eq_false_iff_eq.mpr c8
     clear c8
     obtain ⟨zK, A9, H⟩ := bd_ H
     (try dsimp only at H)
     by_cases c10 : zK = true
     ·subst c10
      rw [if_pos rfl] at H
      obtain rfl := Option.some.inj H
      have jJ : 0 ≤ (aa : Int) := of_decide_eq_true (Z8)
      have jK : aa < (l2.length : Int) := of_decide_eq_true (Z8)
      obtain ⟨jZ, e354, cX, cY, cZ⟩ := at_T55 HR2.out aa jJ jK
      cases e354
      replace cX := (HB.out.cell (World.block_lt_of_cell? w _ cX)).trans cX
      replace cY := (HB.out.cell (World.block_lt_of_cell? w _ cY)).trans cY
      replace cZ := (HB.out.cell (World.block_lt_of_cell? w _ cZ)).trans cZ
      replace jJ := eq_true jJ
      replace jK := eq_true jK
      go_wp2_with (first | ((with_reducible refine gate_dst (N := 7) rfl ?_); refine bv_ 7 55 #[.int .i64 0, .int .i64 0, .int .i64 0] ?_; intro dD hg g3 hbox hb; refine k7_ (Ye_ cA) (below_step (Z36) hb) (hbox) ((Z113 : w.heap.size ≤ dD)) ((Z113 : w.heap.size ≤ dD)) ((Z98 : p2 ≠ dD)) ((Z99 : dD ≠ p2)) ?_; clear cA HB; intro cA HB fP xO rH cD eo; clear hb hbox hg; have hnb12 := eo.out; have hnc12 := cD.out; obtain ⟨lH, lI, lJ, lK, lL, lM⟩ := bx3_ (w := g3) fP.out) | (go_at_call 31; (with_reducible refine (impl_isOpen.calls ((rd_T55 l2 aa).f0) ((rd_T55 l2 aa).f1) ((rd_T55 l2 aa).f2) a0 true _ A9.out).mono ?_); rintro e ze ⟨rfl, hb⟩; refine k3_ (blk_below (g := p2) (o := .cells #[.slice (some jZ) l2.length c2] 24 (0, 0)) (Z47) hb) (blk_below (g := dD) (o := .cells #[.int .i64 ((rd_T55 l2 aa).f0), .int .i64 ((rd_T55 l2 aa).f1), .int .i64 ((rd_T55 l2 aa).f2)] 55 (0, 0)) (Z56) hb) (below_step (Z54) hb) ?_; clear cA fP HB; intro cA fP HB; (try clear hb)))
      go_ret
      exact ⟨Z9, Z54⟩
     replace c10 := Bool.eq_false_iff.mpr c10
     subst c10
     rw [if_neg (show ¬ (false = true) by decide)] at H
     have H' := Aside0.mk H
     clear H
     have jJ : 0 ≤ (aa : Int) := of_decide_eq_true (Z8)
     have jK : aa < (l2.length : Int) := of_decide_eq_true (Z8)
     obtain ⟨jZ, e354, cX, cY, cZ⟩ := at_T55 HR2.out aa jJ jK
     cases e354
     replace cX := (HB.out.cell (World.block_lt_of_cell? w _ cX)).trans cX
     replace cY := (HB.out.cell (World.block_lt_of_cell? w _ cY)).trans cY
     replace cZ := (HB.out.cell (World.block_lt_of_cell? w _ cZ)).trans cZ
     replace jJ := eq_true jJ
     replace jK := eq_true jK
     go_wp2_with (first | ((with_reducible refine gate_dst (N := 7) rfl ?_); refine bv_ 7 55 #[.int .i64 0, .int .i64 0, .int .i64 0] ?_; intro dD hg il hbox hb; refine k7_ (Ye_ cA) (below_step (Z36) hb) (hbox) ((Z113 : w.heap.size ≤ dD)) ((Z113 : w.heap.size ≤ dD)) ((Z98 : p2 ≠ dD)) ((Z99 : dD ≠ p2)) ?_; clear cA HB; intro cA HB fP xO rH cD eo; clear hb hbox hg; have hnb16 := eo.out; have hnc16 := cD.out; obtain ⟨hcz17_0, hcz17_1, hcz17_2, hfz17_0, hfz17_1, hfz17_2⟩ := bx3_ (w := il) fP.out) | (go_at_call 31; (with_reducible refine (impl_isOpen.calls ((rd_T55 l2 aa).f0) ((rd_T55 l2 aa).f1) ((rd_T55 l2 aa).f2) a0 false _ A9.out).mono ?_); rintro e yy ⟨rfl, hb⟩; refine k3_ (blk_below (g := p2) (o := .cells #[.slice (some jZ) l2.length c2] 24 (0, 0)) (Z47) hb) (blk_below (g := dD) (o := .cells #[.int .i64 ((rd_T55 l2 aa).f0), .int .i64 ((rd_T55 l2 aa).f1), .int .i64 ((rd_T55 l2 aa).f2)] 55 (0, 0)) (Z56) hb) (below_step (Z54) hb) ?_; clear cA fP HB; intro cA fP HB; (try clear hb)))
     go_roundg k1
     case measure => have := HK1.out; omega
     case rel => exact ⟨(wrap64 (aa + 1)), (Z11), H', ⟨Z83 HK1⟩, ⟨Z7 cA⟩, ⟨Z54⟩⟩
    rw [if_neg c8] at H
    have ep : (((rd_T55 l2 aa).f0) == a1) = false := beq_eq_false_iff_ne.mpr c8
    have qz : (((rd_T55 l2 aa).f0) != a1) = true := bne_iff_ne.mpr c8
    have H' := Aside0.mk H
    clear H
    have jJ : 0 ≤ (aa : Int) := of_decide_eq_true (Z8)
    have jK : aa < (l2.length : Int) := of_decide_eq_true (Z8)
    obtain ⟨jZ, e354, cX, cY, cZ⟩ := at_T55 HR2.out aa jJ jK
    cases e354
    replace cX := (HB.out.cell (World.block_lt_of_cell? w _ cX)).trans cX
    replace cY := (HB.out.cell (World.block_lt_of_cell? w _ cY)).trans cY
    replace cZ := (HB.out.cell (World.block_lt_of_cell? w _ cZ)).trans cZ
    replace jJ := eq_true jJ
    replace jK := eq_true jK
    go_wp2_with ((with_reducible refine gate_dst (N := 7) rfl ?_); refine bv_ 7 55 #[.int .i64 0, .int .i64 0, .int .i64 0] ?_; intro dD hg uk hbox hb; refine k7_ (Ye_ cA) (below_step (Z36) hb) (hbox) ((Z113 : w.heap.size ≤ dD)) ((Z113 : w.heap.size ≤ dD)) ((Z98 : p2 ≠ dD)) ((Z99 : dD ≠ p2)) ?_; clear cA HB; intro cA HB fP xO rH cD eo; clear hb hbox hg; have hnb20 := eo.out; have hnc20 := cD.out; obtain ⟨hcz21_0, hcz21_1, hcz21_2, hfz21_0, hfz21_1, hfz21_2⟩ := bx3_ (w := uk) fP.out)
    go_roundg k1
    case measure => have := HK1.out; omega
    case rel => exact ⟨(wrap64 (aa + 1)), (Z11), H', ⟨Z83 HK1⟩, ⟨Z47⟩, ⟨Z54⟩⟩
   rw [if_neg c5] at H
   have ci : decide (aa < (l2.length : Int)) = false := decide_eq_false c5
   clear c5
   obtain rfl := Option.some.inj H
   go_wp2
   go_ret
   exact ⟨Z9, Z36⟩

/-! ### impl_ScanOf: function 6 -/
def impl_ScanOf.f (k : Nat) (l0 : List (S55)) (a1 : Int) (a2 : Int) : Option (List ByteArray × Bool) := (impl_IsSheet.f k l0).bind fun tW => (if tW = true then (if a1 < 1 then (some (([] : List ByteArray), false)) else (if a1 > 20 then (some (([] : List ByteArray), false)) else (if a2 < 1 then (some (([] : List ByteArray), false)) else (if a2 > 60 then (some (([] : List ByteArray), false)) else ((impl_drawnW.f k a2 a1 (fun a0_ a1_ => impl_ScanOf_1.f k a0_ a1_ l0)).bind fun rq => (some (rq, true))))))) else (some (([] : List ByteArray), false)))
theorem impl_ScanOf.mono : ∀ a0 a1 a2 k, LeO (impl_ScanOf.f k a0 a1 a2) (impl_ScanOf.f (k + 1) a0 a1 a2) := by
 intro a0 a1 a2 k
 unfold impl_ScanOf.f
 repeat' first
   | (with_reducible exact impl_IsSheet.mono _ _)
   | (with_reducible exact impl_ScanOf_1.mono _ _ _ _)
   | (with_reducible exact impl_drawnW.mono _ _ _ _)
   | (with_reducible exact impl_drawnW.mono2 _ _ (fun _ _ => impl_ScanOf_1.mono _ _ _ _) _ _ _)
   | (with_reducible exact LeO.refl _)
   | (with_reducible exact LeO.none _)
   | (with_reducible refine LeO.ite ?_ ?_)
   | (with_reducible refine LeO.bind ?_ (fun _ => ?_))
   | exact impl_IsSheet.mono _ _
   | exact impl_ScanOf_1.mono _ _ _ _
   | exact impl_drawnW.mono _ _ _ _
   | exact LeO.none _
   | refine LeO.ite ?_ ?_
   | refine LeO.bind ?_ (fun _ => ?_)
set_option maxHeartbeats 8000000 in
set_option maxRecDepth 100000 in
theorem impl_ScanOf.calls (k : Nat) (A0 : Option Addr) (c0 : Nat) (l0 : List (S55)) (a1 : Int) (a2 : Int) (r1 : List ByteArray) (r2 : Bool) (w : World) (hr0 : Kd.C k55 w A0 l0.length l0) (hc0 : l0.length ≤ c0) (h : impl_ScanOf.f k l0 a1 a2 = some (r1, r2)) :
  Calls Tryz.prog 6 #[.slice A0 l0.length c0, .int .i64 a1, .int .i64 a2] w fun e w' => ∃ v0_ : Value, e = .returned (.tuple #[v0_, .bool r2]) ∧ Kd.R Kd.string 9 w' w.heap.size (fun _ => True) v0_ r1 ∧ Below w.heap.size w w' := by
 have hu24 := Tryz.underlying24
 have HR0 := Aside0.mk hr0
 have HC0 := Aside0.mk hc0
 clear hr0 hc0
 have HB := Aside0.mk (Below.refl w.heap.size w)
 have H : ((impl_IsSheet.f k l0).bind fun tW => (if tW = true then (if a1 < 1 then (some (([] : List ByteArray), false)) else (if a1 > 20 then (some (([] : List ByteArray), false)) else (if a2 < 1 then (some (([] : List ByteArray), false)) else (if a2 > 60 then (some (([] : List ByteArray), false)) else ((impl_drawnW.f k a2 a1 (fun a0_ a1_ => impl_ScanOf_1.f k a0_ a1_ l0)).bind fun rq => (some (rq, true))))))) else (some (([] : List ByteArray), false)))) = some (r1, r2) := h
 clear h
 obtain ⟨tW, A4, H⟩ := bd_ H
 (try dsimp only at H)
 by_cases c5 : tW = true
 ·subst c5
  rw [if_pos rfl] at H
  by_cases c6 : a1 < 1
  ·rw [if_pos c6] at H
   have ck : decide (a1 < 1) = true := decide_eq_true c6
   clear c6
   simp only [Option.some.injEq, Prod.mk.injEq] at H
   obtain ⟨rfl, rfl⟩ := H
   go_enter Tryz.func6, Tryz.ntmps6
   go_wp2_with (first | ((with_reducible refine gate_dst (N := 3) rfl ?_); refine bv_ 3 24 #[.slice A0 l0.length c0] ?_; intro cx hg w7 hbox hb; refine k4_ (below_step (Z2) hb) (hbox) ((Z33 : w.heap.size ≤ cx)) ((Z33 : w.heap.size ≤ cx)) ?_; clear HB; intro HB bF ow j9; clear hb hbox hg; obtain ⟨gQ, jd⟩ := bx1_ (w := w7) bF.out) | ((with_reducible refine gate_callee (f := 28) rfl ?_); refine gl_ 9 Tryz.func28 #[.slice A0 l0.length c0] ?_; (with_reducible refine (impl_IsSheet.calls k _ _ l0 true _ ?_ ?_ A4.out).mono ?_); exact (Z22 HR0); exact HC0.out; rintro e w9 ⟨rfl, hb⟩; refine ⟨_, rfl, ?_⟩; refine k2_ (Ye_ bF) (below_step (Z32) hb) ?_; clear bF HB; intro bF HB; (try clear hb)))
   go_ret2
   exact ⟨_, Z9, Z15, Z32⟩
  rw [if_neg c6] at H
  have ck : decide (a1 < 1) = false := decide_eq_false c6
  clear c6
  by_cases c10 : a1 > 20
  ·rw [if_pos c10] at H
   have b7 : decide (20 < a1) = true := decide_eq_true c10
   clear c10
   simp only [Option.some.injEq, Prod.mk.injEq] at H
   obtain ⟨rfl, rfl⟩ := H
   go_enter Tryz.func6, Tryz.ntmps6
   go_wp2_with (first | ((with_reducible refine gate_dst (N := 3) rfl ?_); refine bv_ 3 24 #[.slice A0 l0.length c0] ?_; intro cx hg g3 hbox hb; refine k4_ (below_step (Z2) hb) (hbox) ((Z33 : w.heap.size ≤ cx)) ((Z33 : w.heap.size ≤ cx)) ?_; clear HB; intro HB bF ow j9; clear hb hbox hg; obtain ⟨lF, lG⟩ := bx1_ (w := g3) bF.out) | ((with_reducible refine gate_callee (f := 28) rfl ?_); refine gl_ 9 Tryz.func28 #[.slice A0 l0.length c0] ?_; (with_reducible refine (impl_IsSheet.calls k _ _ l0 true _ ?_ ?_ A4.out).mono ?_); exact (Z22 HR0); exact HC0.out; rintro e pQ ⟨rfl, hb⟩; refine ⟨_, rfl, ?_⟩; refine k2_ (Ye_ bF) (below_step (Z32) hb) ?_; clear bF HB; intro bF HB; (try clear hb)))
   go_ret2
   exact ⟨_, Z9, Z15, Z32⟩
  rw [if_neg c10] at H
  have b7 : decide (20 < a1) = false := decide_eq_false c10
  clear c10
  by_cases c14 : a2 < 1
  ·rw [if_pos c14] at H
   have ee : decide (a2 < 1) = true := decide_eq_true c14
   clear c14
   simp only [Option.some.injEq, Prod.mk.injEq] at H
   obtain ⟨rfl, rfl⟩ := H
   go_enter Tryz.func6, Tryz.ntmps6
   go_wp2_with (first | ((with_reducible refine gate_dst (N := 3) rfl ?_); refine bv_ 3 24 #[.slice A0 l0.length c0] ?_; intro cx hg il hbox hb; refine k4_ (below_step (Z2) hb) (hbox) ((Z33 : w.heap.size ≤ cx)) ((Z33 : w.heap.size ≤ cx)) ?_; clear HB; intro HB bF ow j9; clear hb hbox hg; obtain ⟨hcz16_0, hfz16_0⟩ := bx1_ (w := il) bF.out) | ((with_reducible refine gate_callee (f := 28) rfl ?_); refine gl_ 9 Tryz.func28 #[.slice A0 l0.length c0] ?_; (with_reducible refine (impl_IsSheet.calls k _ _ l0 true _ ?_ ?_ A4.out).mono ?_); exact (Z22 HR0); exact HC0.out; rintro e uY ⟨rfl, hb⟩; refine ⟨_, rfl, ?_⟩; refine k2_ (Ye_ bF) (below_step (Z32) hb) ?_; clear bF HB; intro bF HB; (try clear hb)))
   go_ret2
   exact ⟨_, Z9, Z15, Z32⟩
  rw [if_neg c14] at H
  have ee : decide (a2 < 1) = false := decide_eq_false c14
  clear c14
  by_cases c18 : a2 > 60
  ·rw [if_pos c18] at H
   have iL : decide (60 < a2) = true := decide_eq_true c18
   clear c18
   simp only [Option.some.injEq, Prod.mk.injEq] at H
   obtain ⟨rfl, rfl⟩ := H
   go_enter Tryz.func6, Tryz.ntmps6
   go_wp2_with (first | ((with_reducible refine gate_dst (N := 3) rfl ?_); refine bv_ 3 24 #[.slice A0 l0.length c0] ?_; intro cx hg uk hbox hb; refine k4_ (below_step (Z2) hb) (hbox) ((Z33 : w.heap.size ≤ cx)) ((Z33 : w.heap.size ≤ cx)) ?_; clear HB; intro HB bF ow j9; clear hb hbox hg; obtain ⟨hcz20_0, hfz20_0⟩ := bx1_ (w := uk) bF.out) | ((with_reducible refine gate_callee (f := 28) rfl ?_); refine gl_ 9 Tryz.func28 #[.slice A0 l0.length c0] ?_; (with_reducible refine (impl_IsSheet.calls k _ _ l0 true _ ?_ ?_ A4.out).mono ?_); exact (Z22 HR0); exact HC0.out; rintro e vP ⟨rfl, hb⟩; refine ⟨_, rfl, ?_⟩; refine k2_ (Ye_ bF) (below_step (Z32) hb) ?_; clear bF HB; intro bF HB; (try clear hb)))
   go_ret2
   exact ⟨_, Z9, Z15, Z32⟩
  rw [if_neg c18] at H
  have iL : decide (60 < a2) = false := decide_eq_false c18
  clear c18
  obtain ⟨rq, Ct, H⟩ := bd_ H
  replace H : (some (rq, true)) = some (r1, r2) := H
  simp only [Option.some.injEq, Prod.mk.injEq] at H
  obtain ⟨rfl, rfl⟩ := H
  go_enter Tryz.func6, Tryz.ntmps6
  go_wp2_with (first | ((with_reducible refine gate_dst (N := 3) rfl ?_); refine bv_ 3 24 #[.slice A0 l0.length c0] ?_; intro cx hg mm hbox hb; refine k4_ (below_step (Z2) hb) (hbox) ((Z33 : w.heap.size ≤ cx)) ((Z33 : w.heap.size ≤ cx)) ?_; clear HB; intro HB bF ow j9; clear hb hbox hg; obtain ⟨hcz24_0, hfz24_0⟩ := bx1_ (w := mm) bF.out) | ((with_reducible refine gate_callee (f := 28) rfl ?_); refine gl_ 9 Tryz.func28 #[.slice A0 l0.length c0] ?_; (with_reducible refine (impl_IsSheet.calls k _ _ l0 true _ ?_ ?_ A4.out).mono ?_); exact (Z22 HR0); exact HC0.out; rintro e Cp ⟨rfl, hb⟩; refine ⟨_, rfl, ?_⟩; refine k2_ (Ye_ bF) (below_step (Z32) hb) ?_; clear bF HB; intro bF HB; (try clear hb)) | ((with_reducible refine gate_callee (f := 29) rfl ?_); refine gl_ 30 Tryz.func29 #[.int .i64 a2, .int .i64 a1, .func (.func 30) #[] #[.pointer (some ⟨cx, 0, none⟩)]] ?_; (with_reducible refine (impl_drawnW.calls k a2 a1 30 Tryz.f30 #[.pointer (some ⟨cx, 0, none⟩)] Tryz.func30 (by kernel_rfl) rfl (fun a0_ a1_ => impl_ScanOf_1.f k a0_ a1_ l0) rq _ ?_ Ct.out).mono ?_); exact (by intro a0_ a1_ r_ W_ hW_ h_; (try simp only [List.append_toArray, List.cons_append, List.nil_append]); exact (impl_ScanOf_1.calls k a0_ a1_ cx _ _ l0 r_ W_ (Kd.C_below (Z22 HR0) hW_) HC0.out (blk_below (g := cx) (o := .cells #[.slice A0 l0.length c0] 24 (0, 0)) (Z7 bF) hW_) h_).mono (fun e_ w_ h2_ => h2_)); rintro e zP ⟨v360, rfl, ho0, hb⟩; refine ⟨_, rfl, ?_⟩; refine k3_ (Kd.R_lower ho0 (below_size (Z32))) (Ye_ bF) (below_step (Z32) hb) ?_; clear bF HB; intro HO361 bF HB; (try clear hb ho0)))
  go_ret2
  exact ⟨_, Z9, Z3 HO361, Z32⟩
 replace c5 := Bool.eq_false_iff.mpr c5
 subst c5
 rw [if_neg (show ¬ (false = true) by decide)] at H
 simp only [Option.some.injEq, Prod.mk.injEq] at H
 obtain ⟨rfl, rfl⟩ := H
 go_enter Tryz.func6, Tryz.ntmps6
 go_wp2_with (first | ((with_reducible refine gate_dst (N := 3) rfl ?_); refine bv_ 3 24 #[.slice A0 l0.length c0] ?_; intro cx hg zQ hbox hb; refine k4_ (below_step (Z2) hb) (hbox) ((Z33 : w.heap.size ≤ cx)) ((Z33 : w.heap.size ≤ cx)) ?_; clear HB; intro HB bF ow j9; clear hb hbox hg; obtain ⟨hcz28_0, hfz28_0⟩ := bx1_ (w := zQ) bF.out) | ((with_reducible refine gate_callee (f := 28) rfl ?_); refine gl_ 9 Tryz.func28 #[.slice A0 l0.length c0] ?_; (with_reducible refine (impl_IsSheet.calls k _ _ l0 false _ ?_ ?_ A4.out).mono ?_); exact (Z22 HR0); exact HC0.out; rintro e w29 ⟨rfl, hb⟩; refine ⟨_, rfl, ?_⟩; refine k2_ (Ye_ bF) (below_step (Z32) hb) ?_; clear bF HB; intro bF HB; (try clear hb)))
 go_ret2
 exact ⟨_, Z9, Z15, Z32⟩

/-! ### spec_l1Put: function 62 -/
def spec_l1Put.l0 : Nat → List Int → Int → Int → Option (List Int)
 | 0, _, _, _ => none
 | k + 1, x0, x1, x5 => if x5 < (x0.length : Int) then (if 0 ≤ x5 then (if (rd x0 x5) < x1 then (spec_l1Put.l0 k x0 x1 (wrap64 (x5 + 1))) else (if (rd x0 x5) = x1 then (some x0) else ((some (([] : List Int) : List Int)).bind fun jX => (if x5 ≤ (x0.length : Int) then ((some (x0.take (x5 : Int).toNat : List Int)).bind fun eD => (if jX.length + eD.length < 17592186044416 then ((some (jX ++ eD : List Int)).bind fun gJ => (if gJ.length < 17592186044416 then ((some (gJ ++ [x1] : List Int)).bind fun eE => ((some (x0.drop (x5 : Int).toNat : List Int)).bind fun dm => (if eE.length + dm.length < 17592186044416 then (some (eE ++ dm)) else (none)))) else (none))) else (none))) else (none))))) else (none)) else ((some (([] : List Int) : List Int)).bind fun jY => (if 0 ≤ x5 then (if x5 ≤ (x0.length : Int) then ((some (x0.take (x5 : Int).toNat : List Int)).bind fun eF => (if jY.length + eF.length < 17592186044416 then ((some (jY ++ eF : List Int)).bind fun gK => (if gK.length < 17592186044416 then ((some (gK ++ [x1] : List Int)).bind fun eG => ((some (x0.drop (x5 : Int).toNat : List Int)).bind fun dn => (if eG.length + dn.length < 17592186044416 then (some (eG ++ dn)) else (none)))) else (none))) else (none))) else (none)) else (none)))
def spec_l1Put.f (k : Nat) (l0 : List Int) (a1 : Int) : Option (List Int) := spec_l1Put.l0 k l0 a1 0
theorem spec_l1Put.mono_l : ∀ k, (∀ y0 y1 y2, LeO (spec_l1Put.l0 k y0 y1 y2) (spec_l1Put.l0 (k + 1) y0 y1 y2))
 | 0 => fun _ _ _ r h => by simp [spec_l1Put.l0] at h
 | k + 1 => by
  have ih0 := spec_l1Put.mono_l k
  ·intro y0 y1 y2
   unfold spec_l1Put.l0
   exact mo8_
theorem spec_l1Put.mono : ∀ a0 a1 k, LeO (spec_l1Put.f k a0 a1) (spec_l1Put.f (k + 1) a0 a1) := by
 intro a0 a1 k
 have ih0 := spec_l1Put.mono_l k
 unfold spec_l1Put.f
 exact mo8_
set_option maxHeartbeats 8000000 in
set_option maxRecDepth 100000 in
theorem spec_l1Put.calls (k : Nat) (P0_ : Nat → Prop) (u9000_ : Value) (l0 : List Int) (a1 : Int) (r : List Int) (w0 w : World) (hB : Below w0.heap.size w0 w) (ho0 : Kd.R (Kd.int .i64) 3 w w0.heap.size P0_ u9000_ l0) (h : spec_l1Put.f k l0 a1 = some r) :
  Calls Tryz.prog 62 #[u9000_, .int .i64 a1] w fun e w' => ∃ v0_ : Value, e = .returned (v0_) ∧ Kd.R (Kd.int .i64) 3 w' w0.heap.size (fun k_ => (P0_ k_ ∨ w.heap.size ≤ k_)) v0_ r ∧ Below w0.heap.size w0 w' ∧ Kept w w' (fun k_ => P0_ k_) := by
 have HO0 := Aside0.mk (show Kd.R (Kd.int .i64) 3 w w0.heap.size (fun k_ => (P0_ k_ ∨ w.heap.size ≤ k_)) u9000_ l0 from Kd.R_mono ho0 (fun k_ hk => (.inl hk)))
 have HK := Aside0.mk (Kept.refl w (fun k_ => P0_ k_))
 have HW0 := Aside0.mk hB.size
 have HB := Aside0.mk hB
 clear hB
 have H : (spec_l1Put.l0 k l0 a1 0) = some r := h
 clear h
 have H' := Aside0.mk H
 clear H
 go_enter Tryz.func62, Tryz.ntmps62
 go_wp2
 go_loopg [5] k (fun kq v5 w' => ∃ (ag : Int), v5 = .int .i64 ag ∧ Aside0 (spec_l1Put.l0 kq l0 a1 ag = some r) ∧ Aside0 (kq ≤ k) ∧ Aside0 (Kd.R (Kd.int .i64) 3 w' w0.heap.size (fun k_ => (P0_ k_ ∨ w.heap.size ≤ k_)) u9000_ l0) ∧ Aside0 (Kept w w' (fun k_ => P0_ k_)) ∧ Aside0 (Below w0.heap.size w0 w'))
 case atStart => exact ⟨(0), (Z11), H', ⟨Nat.le_refl _⟩, ⟨Z3 HO0⟩, ⟨Z28⟩, ⟨Z2⟩⟩
 case round =>
  clear H'
  obtain ⟨ag, rfl, HA, HK1, br, HK, HB⟩ := hrel
  cases gk with
  | zero => exact absurd HA.out (by simp [spec_l1Put.l0])
  | succ k1 =>
   have H := HA.out
   clear HA
   simp only [spec_l1Put.l0] at H
   by_cases c3 : ag < (l0.length : Int)
   ·rw [if_pos c3] at H
    have bA : decide (ag < (l0.length : Int)) = true := decide_eq_true c3
    clear c3
    by_cases c4 : 0 ≤ ag
    case neg => rw [if_neg c4] at H; exact absurd H (by simp)
    rw [if_pos c4] at H
    have bZ : decide (0 ≤ ag) = true := decide_eq_true c4
    clear c4
    by_cases c5 : (rd l0 ag) < a1
    ·rw [if_pos c5] at H
     have ci : decide ((rd l0 ag) < a1) = true := decide_eq_true c5
     clear c5
     have H' := Aside0.mk H
     clear H
     obtain ⟨Ao6, co6, eo6⟩ := Kd.R_slice br.out
     subst eo6
     have jL : 0 ≤ (ag : Int) := of_decide_eq_true (Z8)
     have jM : ag < (l0.length : Int) := of_decide_eq_true (Z8)
     obtain ⟨dE, e362, qq⟩ := Kd.at_int (Kd.R_reads' br.out).2.2 ag jL jM
     cases e362
     replace jL := eq_true jL
     replace jM := eq_true jM
     go_wp2
     go_roundg k1
     case measure => have := HK1.out; omega
     case rel => exact ⟨(wrap64 (ag + 1)), (Z11), H', ⟨Z83 HK1⟩, ⟨Z3 br⟩, ⟨Z28⟩, ⟨Z2⟩⟩
    rw [if_neg c5] at H
    have ci : decide ((rd l0 ag) < a1) = false := decide_eq_false c5
    clear c5
    by_cases c7 : (rd l0 ag) = a1
    ·rw [if_pos c7] at H
     have cd : ((rd l0 ag) == a1) = true := beq_iff_eq.mpr c7
     have qO : ((rd l0 ag) != a1) = false := bne_eq_false_iff_eq.mpr c7
     clear c7
     obtain rfl := Option.some.inj H
     obtain ⟨sn, so, AN⟩ := Kd.R_slice br.out
     subst AN
     have jL : 0 ≤ (ag : Int) := of_decide_eq_true (Z8)
     have jM : ag < (l0.length : Int) := of_decide_eq_true (Z8)
     obtain ⟨dE, e362, qq⟩ := Kd.at_int (Kd.R_reads' br.out).2.2 ag jL jM
     cases e362
     replace jL := eq_true jL
     replace jM := eq_true jM
     have pr : 0 ≤ (ag : Int) := of_decide_eq_true (Z8)
     have pt : ag < (l0.length : Int) := of_decide_eq_true (Z8)
     obtain ⟨tX, e363, hx363_0⟩ := Kd.at_int (Kd.R_reads' br.out).2.2 ag pr pt
     obtain rfl : dE = tX := (by injection e363)
     replace pr := eq_true pr
     replace pt := eq_true pt
     go_wp2
     go_ret
     exact ⟨_, Z9, Z3 br, Z2, Z28⟩
    rw [if_neg c7] at H
    have cd : ((rd l0 ag) == a1) = false := beq_eq_false_iff_ne.mpr c7
    have qO : ((rd l0 ag) != a1) = true := bne_iff_ne.mpr c7
    obtain ⟨jX, ox⟩ : ∃ y_ : List Int, y_ = (([] : List Int)) := ⟨_, rfl⟩
    replace H : (if ag ≤ (l0.length : Int) then ((some (l0.take (ag : Int).toNat : List Int)).bind fun eD => (if jX.length + eD.length < 17592186044416 then ((some (jX ++ eD : List Int)).bind fun gJ => (if gJ.length < 17592186044416 then ((some (gJ ++ [a1] : List Int)).bind fun eE => ((some (l0.drop (ag : Int).toNat : List Int)).bind fun dm => (if eE.length + dm.length < 17592186044416 then (some (eE ++ dm)) else (none)))) else (none))) else (none))) else (none)) = some r := by first | (rw [ox]; with_reducible exact H) | (have H2_ := (Option.bind_some _ _).symm.trans H; rw [ox]; with_reducible exact H2_) | (have H2_ := (Option.bind_some _ _).symm.trans H; with_reducible exact H2_) | with_reducible exact H | (rw [ox]; exact H) | exact H
    have xP := Aside0.mk ox
    clear ox
    have gM := eq_true (of_decide_eq_true (Z8) : 0 ≤ ag)
    by_cases c10 : ag ≤ (l0.length : Int)
    case neg => rw [if_neg c10] at H; exact absurd H (by simp)
    rw [if_pos c10] at H
    have b7 := eq_true c10
    have gn : decide (ag ≤ (l0.length : Int)) = true := decide_eq_true c10
    clear c10
    obtain ⟨eD, oy⟩ : ∃ y_ : List Int, y_ = (l0.take (ag : Int).toNat) := ⟨_, rfl⟩
    replace H : (if jX.length + eD.length < 17592186044416 then ((some (jX ++ eD : List Int)).bind fun gJ => (if gJ.length < 17592186044416 then ((some (gJ ++ [a1] : List Int)).bind fun eE => ((some (l0.drop (ag : Int).toNat : List Int)).bind fun dm => (if eE.length + dm.length < 17592186044416 then (some (eE ++ dm)) else (none)))) else (none))) else (none)) = some r := by first | (rw [oy]; with_reducible exact H) | (have H2_ := (Option.bind_some _ _).symm.trans H; rw [oy]; with_reducible exact H2_) | (have H2_ := (Option.bind_some _ _).symm.trans H; with_reducible exact H2_) | with_reducible exact H | (rw [oy]; exact H) | exact H
    have rB := Aside0.mk oy
    clear oy
    by_cases c11 : jX.length + eD.length < 17592186044416
    case neg => rw [if_neg c11] at H; exact absurd H (by simp)
    rw [if_pos c11] at H
    have LMc11 := Aside0.mk c11
    clear c11
    obtain ⟨gJ, oz⟩ : ∃ y_ : List Int, y_ = (jX ++ eD) := ⟨_, rfl⟩
    replace H : (if gJ.length < 17592186044416 then ((some (gJ ++ [a1] : List Int)).bind fun eE => ((some (l0.drop (ag : Int).toNat : List Int)).bind fun dm => (if eE.length + dm.length < 17592186044416 then (some (eE ++ dm)) else (none)))) else (none)) = some r := by first | (rw [oz]; with_reducible exact H) | (have H2_ := (Option.bind_some _ _).symm.trans H; rw [oz]; with_reducible exact H2_) | (have H2_ := (Option.bind_some _ _).symm.trans H; with_reducible exact H2_) | with_reducible exact H | (rw [oz]; exact H) | exact H
    have Ny371 := Aside0.mk oz
    clear oz
    by_cases c12 : gJ.length < 17592186044416
    case neg => rw [if_neg c12] at H; exact absurd H (by simp)
    rw [if_pos c12] at H
    have LMc12 := Aside0.mk c12
    clear c12
    obtain ⟨eE, oA⟩ : ∃ y_ : List Int, y_ = (gJ ++ [a1]) := ⟨_, rfl⟩
    replace H : ((some (l0.drop (ag : Int).toNat : List Int)).bind fun dm => (if eE.length + dm.length < 17592186044416 then (some (eE ++ dm)) else (none))) = some r := by first | (rw [oA]; with_reducible exact H) | (have H2_ := (Option.bind_some _ _).symm.trans H; rw [oA]; with_reducible exact H2_) | (have H2_ := (Option.bind_some _ _).symm.trans H; with_reducible exact H2_) | with_reducible exact H | (rw [oA]; exact H) | exact H
    have Ny374 := Aside0.mk oA
    clear oA
    have cq := eq_true (of_decide_eq_true (Z8) : 0 ≤ ag)
    have ee := eq_true (of_decide_eq_true (Z8) : ag ≤ (l0.length : Int))
    obtain ⟨dm, oB⟩ : ∃ y_ : List Int, y_ = (l0.drop (ag : Int).toNat) := ⟨_, rfl⟩
    replace H : (if eE.length + dm.length < 17592186044416 then (some (eE ++ dm)) else (none)) = some r := by first | (rw [oB]; with_reducible exact H) | (have H2_ := (Option.bind_some _ _).symm.trans H; rw [oB]; with_reducible exact H2_) | (have H2_ := (Option.bind_some _ _).symm.trans H; with_reducible exact H2_) | with_reducible exact H | (rw [oB]; exact H) | exact H
    have tY := Aside0.mk oB
    clear oB
    by_cases c15 : eE.length + dm.length < 17592186044416
    case neg => rw [if_neg c15] at H; exact absurd H (by simp)
    rw [if_pos c15] at H
    have sk := Aside0.mk c15
    clear c15
    obtain ⟨y381, oC⟩ : ∃ y_ : List Int, y_ = (eE ++ dm) := ⟨_, rfl⟩
    replace H : (some y381) = some r := by first | (rw [oC]; with_reducible exact H) | (have H2_ := (Option.bind_some _ _).symm.trans H; rw [oC]; with_reducible exact H2_) | (have H2_ := (Option.bind_some _ _).symm.trans H; with_reducible exact H2_) | with_reducible exact H | (rw [oC]; exact H) | exact H
    have Ny381 := Aside0.mk oC
    clear oC
    obtain rfl := Option.some.inj H
    obtain ⟨yU, f7, qV⟩ := Kd.R_slice br.out
    subst qV
    have jL : 0 ≤ (ag : Int) := of_decide_eq_true (Z8)
    have jM : ag < (l0.length : Int) := of_decide_eq_true (Z8)
    obtain ⟨dE, e362, qq⟩ := Kd.at_int (Kd.R_reads' br.out).2.2 ag jL jM
    cases e362
    replace jL := eq_true jL
    replace jM := eq_true jM
    have pr : 0 ≤ (ag : Int) := of_decide_eq_true (Z8)
    have pt : ag < (l0.length : Int) := of_decide_eq_true (Z8)
    obtain ⟨tX, e363, hx363_0⟩ := Kd.at_int (Kd.R_reads' br.out).2.2 ag pr pt
    obtain rfl : dE = tX := (by injection e363)
    replace pr := eq_true pr
    replace pt := eq_true pt
    go_wp2_with (first | ((with_reducible refine gate_dst (N := 34) rfl ?_); refine Kd.R_lit (Kd.int .i64) _ 3 ?hg (N := 34) ?hd (xs := ([] : List Int)) (inner := []) (ok := fun _ => True) (okp := fun _ => True) ?hr ?hp (fun _ hk => hk) trivial (Below.refl _ _) (Nat.le_refl _) (by simp) ?_; (case hd => rfl); (case hg => rfl); (case hr => exact Z41); (case hp => exact (Reps.none _ _)); intro v365 uY ho18 hb hg_ hnew_; clear hg_ hnew_; (first | rw [← xP.out] at ho18 | (simp only [Int.reduceToNat] at ho18; rw [← xP.out] at ho18)); refine k4_ (Kd.R_elder' (Z3 br) (Kd.R_base ho18) hb) (Kd.R_lower (Kd.R_new' (Kd.R_newM (M := fun k_ => (P0_ k_ ∨ w.heap.size ≤ k_)) ho18 (Z64) (fun k_ h_ => .inr h_)) (Yd_ br)) (below_size (Z2))) (Kept.below (S := (fun k_ => P0_ k_)) (Z28) hb) (below_step (Z2) hb) ?_; clear br HK HB; intro br tZ HK HB; clear hb ho18; have uh : (ag : Int) ≤ ((l0.length : Int) : Int) := of_decide_eq_true (Z8); obtain ⟨i019, hi019, _, hsz19, _⟩ := info_parts info3; have hroom19 : l0.length ≤ f7 := (Kd.R_reads' br.out).2.1; have hC19 : Kd.C (Kd.int .i64) _ (some dE) l0.length l0 := (Kd.R_reads' br.out).2.2; have hcut19 := cut_to (P := Tryz.prog) 34 3 .i64 Tryz.underlying34 hi019 (some dE) l0.length f7 ag (of_decide_eq_true (Z8)) uh hroom19; have hr19 := Kd.C_take (m := (ag : Int).toNat) hC19 (by omega); have zL : eD.length = (ag : Int).toNat := (Z118 rB); rw [← rB.out] at hr19; rw [← zL] at hcut19; have HR370 := Aside0.mk hr19; have HC370 := Aside0.mk (show eD.length ≤ f7 from by omega); clear hr19 hC19 hroom19 hi019 hsz19; have KY19 := Aside0.mk zL; clear zL; have KL19 := Aside0.mk (show (ag : Int).toNat ≤ l0.length from by omega); replace uh := eq_true uh) | ((with_reducible refine gate_builtin (b := .append) (xs := #[.tmp 34, .tmp 37]) rfl ?_); at_builtin; refine Kd.R_append_rows (Kd.int .i64) (w0 := w0) w0.heap.size rfl (.tmp 34) (.tmp 37) 34 3 (.int .i64 0) 8 rfl Tryz.underlying34 info3 rfl (by decide) (by omega) v365 jX eD _ _ _ (fun k_ => (P0_ k_ ∨ w.heap.size ≤ k_) ∧ some k_ ≠ (.slice (some dE) l0.length f7 : Value).ownBlock) (fun _ => False) rfl rfl ?aO ?aR (fun _ _ h => h) (fun _ h => h.elim) ?aF ?aB ?aS ?aL ?_; (case aR => repeat (first | exact (Z13 HR370) | (with_reducible refine Kd.C_alloc ?_ _) | (with_reducible refine Kd.C_drewN ?_ _) | (with_reducible refine Kd.C_drew ?_))); (case aB => exact Z2); (case aF => exact (fun k_ hk => ⟨(.inr (Nat.le_trans (Z64) hk)), Kd.fresh' (Yd_ br) k_ hk⟩)); (case aO => exact (by (with_reducible repeat (first | apply Kd.R_alloc | apply Kd.R_drewN | apply Kd.R_drew)); exact Kd.R_mono tZ.out (fun _ hk => ⟨hk.1.1, hk.2⟩))); (case aS => exact (below_size (Z2))); (case aL => exact Z83 LMc11); intro v372 yC ho hb hg hat; rw [← Ny371.out] at ho; refine k5_ (Kd.R_after (ok := (fun k_ => (P0_ k_ ∨ w.heap.size ≤ k_))) (Z3 br) hg hat) (hb) (Kept.of_grown (S := (fun k_ => P0_ k_)) hg (Z28) (fun k_ e_ => (tZ.out.1 k_ e_).1.1)) ((show Kd.C (Kd.int .i64) yC (some dE) eD.length eD from Z90)) (ho) ?_; clear br HB HK HR370 tZ; intro br HB HK HR370 t0; clear ho hb hg hat) | ((with_reducible refine gate_builtin (b := .append) (xs := #[.tmp 39, .tmp 41]) rfl ?_); at_builtin; refine Kd.R_append (Kd.int .i64) (w0 := w0) w0.heap.size rfl (.tmp 39) (.tmp 41) 34 3 (.int .i64 0) 8 rfl Tryz.underlying34 info3 rfl (by decide) (by omega) v372 gJ a1 [.int .i64 a1] (fun k_ => (P0_ k_ ∨ w.heap.size ≤ k_) ∧ some k_ ≠ (.slice (some dE) l0.length f7 : Value).ownBlock) (fun _ => False) rfl rfl ?aP (fun _ hk => hk.elim) ?aF ?aO ?aB ?aS ?aL ?_; (case aP => exact rfl); (case aB => exact Z2); (case aF => exact (fun k_ hk => ⟨(.inr (Nat.le_trans (Z64) hk)), Kd.fresh' (Yd_ br) k_ hk⟩)); (case aO => exact (Z3 t0)); (case aS => exact (below_size (Z2))); (case aL => exact Z83 LMc12); intro v375 vP ho hb hg hat; rw [← Ny374.out] at ho; refine k5_ (Kd.R_after (ok := (fun k_ => (P0_ k_ ∨ w.heap.size ≤ k_))) (Z3 br) hg hat) (hb) (Kept.of_grown (S := (fun k_ => P0_ k_)) hg (Z28) (fun k_ e_ => (t0.out.1 k_ e_).1)) ((show Kd.C (Kd.int .i64) vP (some dE) eD.length eD from Z90)) (ho) ?_; clear br HB HK HR370 t0; intro br HB HK HR370 t1; clear ho hb hg hat; have r8 : (ag : Int) ≤ ((l0.length : Int) : Int) := of_decide_eq_true (Z8); obtain ⟨i022, hi022, _, hsz22, _⟩ := info_parts info3; have hroom22 : l0.length ≤ f7 := (Kd.R_reads' br.out).2.1; have hC22 : Kd.C (Kd.int .i64) _ (some dE) l0.length l0 := (Kd.R_reads' br.out).2.2; have q022 : (0 : Int) ≤ (ag : Int) := of_decide_eq_true (Z8); have hcut22 := cut_from (P := Tryz.prog) 34 3 .i64 Tryz.underlying34 hi022 1 hsz22 (some dE) l0.length f7 ag q022 r8; have hr22 := Kd.C_drop (m := (ag : Int).toNat) (c := f7) hC22 (by omega) hroom22; obtain ⟨Ct, hA22⟩ : ∃ A1, A1 = (if f7 = (ag : Int).toNat then (some dE) else ((some dE) : Option Addr).map (·.add ((ag : Int).toNat * 1))) := ⟨_, rfl⟩; obtain ⟨c22, hc22⟩ : ∃ c1, c1 = f7 - (ag : Int).toNat := ⟨_, rfl⟩; have vE : dm.length = l0.length - (ag : Int).toNat := (by rw [tY.out, List.length_drop] <;> omega); rw [show (l0).drop (ag : Int).toNat = dm from tY.out.symm] at hr22; replace hr22 : Kd.C (Kd.int .i64) _ Ct dm.length dm := (by rw [hA22]; exact hr22); rw [← vE, ← hA22, ← hc22] at hcut22; have HR380 := Aside0.mk hr22; have HC380 := Aside0.mk (show dm.length ≤ c22 from by rw [vE, hc22]; exact Nat.sub_le_sub_right hroom22 _); clear hr22 hC22 hroom22 hi022 hsz22 hc22; have KY22 := Aside0.mk vE; have KA22 := Aside0.mk hA22; clear vE hA22; have KL22 := Aside0.mk (show (ag : Int).toNat ≤ l0.length from by omega); replace r8 := eq_true r8) | ((with_reducible refine gate_builtin (b := .append) (xs := #[.tmp 43, .tmp 46]) rfl ?_); at_builtin; refine Kd.R_append_rows (Kd.int .i64) (w0 := w0) w0.heap.size rfl (.tmp 43) (.tmp 46) 34 3 (.int .i64 0) 8 rfl Tryz.underlying34 info3 rfl (by decide) (by omega) v375 eE dm _ _ _ (fun k_ => (P0_ k_ ∨ w.heap.size ≤ k_) ∧ some k_ ≠ (.slice (some dE) l0.length f7 : Value).ownBlock) (fun _ => False) rfl rfl ?aO ?aR (fun _ _ h => h) (fun _ h => h.elim) ?aF ?aB ?aS ?aL ?_; (case aR => repeat (first | exact (Z13 HR380) | (with_reducible refine Kd.C_alloc ?_ _) | (with_reducible refine Kd.C_drewN ?_ _) | (with_reducible refine Kd.C_drew ?_))); (case aB => exact Z2); (case aF => exact (fun k_ hk => ⟨(.inr (Nat.le_trans (Z64) hk)), Kd.fresh' (Yd_ br) k_ hk⟩)); (case aO => exact (Z3 t1)); (case aS => exact (below_size (Z2))); (case aL => exact Z83 sk); intro v382 mm ho hb hg hat; rw [← Ny381.out] at ho; refine k6_ (Kd.R_after (ok := (fun k_ => (P0_ k_ ∨ w.heap.size ≤ k_))) (Z3 br) hg hat) (hb) (Kept.of_grown (S := (fun k_ => P0_ k_)) hg (Z28) (fun k_ e_ => (t1.out.1 k_ e_).1)) ((show Kd.C (Kd.int .i64) mm (some dE) eD.length eD from Z90)) ((show Kd.C (Kd.int .i64) mm Ct dm.length dm from by rw [tY.out, KA22.out]; exact Kd.C_drop (m := (ag : Int).toNat) (c := f7) ((Kd.R_reads' (Kd.R_after (ok := (fun k_ => (P0_ k_ ∨ w.heap.size ≤ k_))) (Z3 br) hg hat)).2.2) KL22.out ((Kd.R_reads' (Kd.R_after (ok := (fun k_ => (P0_ k_ ∨ w.heap.size ≤ k_))) (Z3 br) hg hat)).2.1))) (ho) ?_; clear br HB HK HR370 HR380 t1; intro br HB HK HR370 HR380 HO383; clear ho hb hg hat))
    go_ret
    exact ⟨_, Z9, by (with_reducible repeat (first | apply Kd.R_alloc | apply Kd.R_drewN | apply Kd.R_drew)); exact Kd.R_mono HO383.out (fun _ hk => hk.1), Z2, Z28⟩
   rw [if_neg c3] at H
   have bA : decide (ag < (l0.length : Int)) = false := decide_eq_false c3
   clear c3
   obtain ⟨jY, oD⟩ : ∃ y_ : List Int, y_ = (([] : List Int)) := ⟨_, rfl⟩
   replace H : (if 0 ≤ ag then (if ag ≤ (l0.length : Int) then ((some (l0.take (ag : Int).toNat : List Int)).bind fun eF => (if jY.length + eF.length < 17592186044416 then ((some (jY ++ eF : List Int)).bind fun gK => (if gK.length < 17592186044416 then ((some (gK ++ [a1] : List Int)).bind fun eG => ((some (l0.drop (ag : Int).toNat : List Int)).bind fun dn => (if eG.length + dn.length < 17592186044416 then (some (eG ++ dn)) else (none)))) else (none))) else (none))) else (none)) else (none)) = some r := by first | (rw [oD]; with_reducible exact H) | (have H2_ := (Option.bind_some _ _).symm.trans H; rw [oD]; with_reducible exact H2_) | (have H2_ := (Option.bind_some _ _).symm.trans H; with_reducible exact H2_) | with_reducible exact H | (rw [oD]; exact H) | exact H
   have xQ := Aside0.mk oD
   clear oD
   by_cases c24 : 0 ≤ ag
   case neg => rw [if_neg c24] at H; exact absurd H (by simp)
   rw [if_pos c24] at H
   have g8 := eq_true c24
   have qh : decide (0 ≤ ag) = true := decide_eq_true c24
   clear c24
   by_cases c25 : ag ≤ (l0.length : Int)
   case neg => rw [if_neg c25] at H; exact absurd H (by simp)
   rw [if_pos c25] at H
   have ld := eq_true c25
   have qi : decide (ag ≤ (l0.length : Int)) = true := decide_eq_true c25
   clear c25
   obtain ⟨eF, oE⟩ : ∃ y_ : List Int, y_ = (l0.take (ag : Int).toNat) := ⟨_, rfl⟩
   replace H : (if jY.length + eF.length < 17592186044416 then ((some (jY ++ eF : List Int)).bind fun gK => (if gK.length < 17592186044416 then ((some (gK ++ [a1] : List Int)).bind fun eG => ((some (l0.drop (ag : Int).toNat : List Int)).bind fun dn => (if eG.length + dn.length < 17592186044416 then (some (eG ++ dn)) else (none)))) else (none))) else (none)) = some r := by first | (rw [oE]; with_reducible exact H) | (have H2_ := (Option.bind_some _ _).symm.trans H; rw [oE]; with_reducible exact H2_) | (have H2_ := (Option.bind_some _ _).symm.trans H; with_reducible exact H2_) | with_reducible exact H | (rw [oE]; exact H) | exact H
   have rA := Aside0.mk oE
   clear oE
   by_cases c26 : jY.length + eF.length < 17592186044416
   case neg => rw [if_neg c26] at H; exact absurd H (by simp)
   rw [if_pos c26] at H
   have sq := Aside0.mk c26
   clear c26
   obtain ⟨gK, oF⟩ : ∃ y_ : List Int, y_ = (jY ++ eF) := ⟨_, rfl⟩
   replace H : (if gK.length < 17592186044416 then ((some (gK ++ [a1] : List Int)).bind fun eG => ((some (l0.drop (ag : Int).toNat : List Int)).bind fun dn => (if eG.length + dn.length < 17592186044416 then (some (eG ++ dn)) else (none)))) else (none)) = some r := by first | (rw [oF]; with_reducible exact H) | (have H2_ := (Option.bind_some _ _).symm.trans H; rw [oF]; with_reducible exact H2_) | (have H2_ := (Option.bind_some _ _).symm.trans H; with_reducible exact H2_) | with_reducible exact H | (rw [oF]; exact H) | exact H
   have Ny391 := Aside0.mk oF
   clear oF
   by_cases c27 : gK.length < 17592186044416
   case neg => rw [if_neg c27] at H; exact absurd H (by simp)
   rw [if_pos c27] at H
   have LMc27 := Aside0.mk c27
   clear c27
   obtain ⟨eG, oG⟩ : ∃ y_ : List Int, y_ = (gK ++ [a1]) := ⟨_, rfl⟩
   replace H : ((some (l0.drop (ag : Int).toNat : List Int)).bind fun dn => (if eG.length + dn.length < 17592186044416 then (some (eG ++ dn)) else (none))) = some r := by first | (rw [oG]; with_reducible exact H) | (have H2_ := (Option.bind_some _ _).symm.trans H; rw [oG]; with_reducible exact H2_) | (have H2_ := (Option.bind_some _ _).symm.trans H; with_reducible exact H2_) | with_reducible exact H | (rw [oG]; exact H) | exact H
   have Ny394 := Aside0.mk oG
   clear oG
   have la := eq_true (of_decide_eq_true (Z8) : 0 ≤ ag)
   have mu := eq_true (of_decide_eq_true (Z8) : ag ≤ (l0.length : Int))
   obtain ⟨dn, oH⟩ : ∃ y_ : List Int, y_ = (l0.drop (ag : Int).toNat) := ⟨_, rfl⟩
   replace H : (if eG.length + dn.length < 17592186044416 then (some (eG ++ dn)) else (none)) = some r := by first | (rw [oH]; with_reducible exact H) | (have H2_ := (Option.bind_some _ _).symm.trans H; rw [oH]; with_reducible exact H2_) | (have H2_ := (Option.bind_some _ _).symm.trans H; with_reducible exact H2_) | with_reducible exact H | (rw [oH]; exact H) | exact H
   have t2 := Aside0.mk oH
   clear oH
   by_cases c30 : eG.length + dn.length < 17592186044416
   case neg => rw [if_neg c30] at H; exact absurd H (by simp)
   rw [if_pos c30] at H
   have tO := Aside0.mk c30
   clear c30
   obtain ⟨y401, oI⟩ : ∃ y_ : List Int, y_ = (eG ++ dn) := ⟨_, rfl⟩
   replace H : (some y401) = some r := by first | (rw [oI]; with_reducible exact H) | (have H2_ := (Option.bind_some _ _).symm.trans H; rw [oI]; with_reducible exact H2_) | (have H2_ := (Option.bind_some _ _).symm.trans H; with_reducible exact H2_) | with_reducible exact H | (rw [oI]; exact H) | exact H
   have Ny401 := Aside0.mk oI
   clear oI
   obtain rfl := Option.some.inj H
   obtain ⟨ij, ik, eo31⟩ := Kd.R_slice br.out
   subst eo31
   go_wp2_with (first | ((with_reducible refine gate_dst (N := 34) rfl ?_); refine Kd.R_lit (Kd.int .i64) _ 3 ?hg (N := 34) ?hd (xs := ([] : List Int)) (inner := []) (ok := fun _ => True) (okp := fun _ => True) ?hr ?hp (fun _ hk => hk) trivial (Below.refl _ _) (Nat.le_refl _) (by simp) ?_; (case hd => rfl); (case hg => rfl); (case hr => exact Z41); (case hp => exact (Reps.none _ _)); intro v385 yf ho33 hb hg_ hnew_; clear hg_ hnew_; (first | rw [← xQ.out] at ho33 | (simp only [Int.reduceToNat] at ho33; rw [← xQ.out] at ho33)); refine k4_ (Kd.R_elder' (Z3 br) (Kd.R_base ho33) hb) (Kd.R_lower (Kd.R_new' (Kd.R_newM (M := fun k_ => (P0_ k_ ∨ w.heap.size ≤ k_)) ho33 (Z64) (fun k_ h_ => .inr h_)) (Yd_ br)) (below_size (Z2))) (Kept.below (S := (fun k_ => P0_ k_)) (Z28) hb) (below_step (Z2) hb) ?_; clear br HK HB; intro br t3 HK HB; clear hb ho33; have C0 : (ag : Int) ≤ ((l0.length : Int) : Int) := of_decide_eq_true (Z8); obtain ⟨i034, hi034, _, hsz34, _⟩ := info_parts info3; have hroom34 : l0.length ≤ ik := (Kd.R_reads' br.out).2.1; have hC34 : Kd.C (Kd.int .i64) _ ij l0.length l0 := (Kd.R_reads' br.out).2.2; have hcut34 := cut_to (P := Tryz.prog) 34 3 .i64 Tryz.underlying34 hi034 ij l0.length ik ag (of_decide_eq_true (Z8)) C0 hroom34; have hr34 := Kd.C_take (m := (ag : Int).toNat) hC34 (by omega); have zM : eF.length = (ag : Int).toNat := (Z118 rA); rw [← rA.out] at hr34; rw [← zM] at hcut34; have HR390 := Aside0.mk hr34; have HC390 := Aside0.mk (show eF.length ≤ ik from by omega); clear hr34 hC34 hroom34 hi034 hsz34; have KY34 := Aside0.mk zM; clear zM; have KL34 := Aside0.mk (show (ag : Int).toNat ≤ l0.length from by omega); replace C0 := eq_true C0) | ((with_reducible refine gate_builtin (b := .append) (xs := #[.tmp 34, .tmp 37]) rfl ?_); at_builtin; refine Kd.R_append_rows (Kd.int .i64) (w0 := w0) w0.heap.size rfl (.tmp 34) (.tmp 37) 34 3 (.int .i64 0) 8 rfl Tryz.underlying34 info3 rfl (by decide) (by omega) v385 jY eF _ _ _ (fun k_ => (P0_ k_ ∨ w.heap.size ≤ k_) ∧ some k_ ≠ (.slice ij l0.length ik : Value).ownBlock) (fun _ => False) rfl rfl ?aO ?aR (fun _ _ h => h) (fun _ h => h.elim) ?aF ?aB ?aS ?aL ?_; (case aR => repeat (first | exact (Z13 HR390) | (with_reducible refine Kd.C_alloc ?_ _) | (with_reducible refine Kd.C_drewN ?_ _) | (with_reducible refine Kd.C_drew ?_))); (case aB => exact Z2); (case aF => exact (fun k_ hk => ⟨(.inr (Nat.le_trans (Z64) hk)), Kd.fresh' (Yd_ br) k_ hk⟩)); (case aO => exact (by (with_reducible repeat (first | apply Kd.R_alloc | apply Kd.R_drewN | apply Kd.R_drew)); exact Kd.R_mono t3.out (fun _ hk => ⟨hk.1.1, hk.2⟩))); (case aS => exact (below_size (Z2))); (case aL => exact Z83 sq); intro v392 Cf ho hb hg hat; rw [← Ny391.out] at ho; refine k5_ (Kd.R_after (ok := (fun k_ => (P0_ k_ ∨ w.heap.size ≤ k_))) (Z3 br) hg hat) (hb) (Kept.of_grown (S := (fun k_ => P0_ k_)) hg (Z28) (fun k_ e_ => (t3.out.1 k_ e_).1.1)) ((show Kd.C (Kd.int .i64) Cf ij eF.length eF from Z91)) (ho) ?_; clear br HB HK HR390 t3; intro br HB HK HR390 t4; clear ho hb hg hat) | ((with_reducible refine gate_builtin (b := .append) (xs := #[.tmp 39, .tmp 41]) rfl ?_); at_builtin; refine Kd.R_append (Kd.int .i64) (w0 := w0) w0.heap.size rfl (.tmp 39) (.tmp 41) 34 3 (.int .i64 0) 8 rfl Tryz.underlying34 info3 rfl (by decide) (by omega) v392 gK a1 [.int .i64 a1] (fun k_ => (P0_ k_ ∨ w.heap.size ≤ k_) ∧ some k_ ≠ (.slice ij l0.length ik : Value).ownBlock) (fun _ => False) rfl rfl ?aP (fun _ hk => hk.elim) ?aF ?aO ?aB ?aS ?aL ?_; (case aP => exact rfl); (case aB => exact Z2); (case aF => exact (fun k_ hk => ⟨(.inr (Nat.le_trans (Z64) hk)), Kd.fresh' (Yd_ br) k_ hk⟩)); (case aO => exact (Z3 t4)); (case aS => exact (below_size (Z2))); (case aL => exact Z83 LMc27); intro v395 qA ho hb hg hat; rw [← Ny394.out] at ho; refine k5_ (Kd.R_after (ok := (fun k_ => (P0_ k_ ∨ w.heap.size ≤ k_))) (Z3 br) hg hat) (hb) (Kept.of_grown (S := (fun k_ => P0_ k_)) hg (Z28) (fun k_ e_ => (t4.out.1 k_ e_).1)) ((show Kd.C (Kd.int .i64) qA ij eF.length eF from Z91)) (ho) ?_; clear br HB HK HR390 t4; intro br HB HK HR390 t6; clear ho hb hg hat; have C1 : (ag : Int) ≤ ((l0.length : Int) : Int) := of_decide_eq_true (Z8); obtain ⟨i037, hi037, _, hsz37, _⟩ := info_parts info3; have hroom37 : l0.length ≤ ik := (Kd.R_reads' br.out).2.1; have hC37 : Kd.C (Kd.int .i64) _ ij l0.length l0 := (Kd.R_reads' br.out).2.2; have q037 : (0 : Int) ≤ (ag : Int) := of_decide_eq_true (Z8); have hcut37 := cut_from (P := Tryz.prog) 34 3 .i64 Tryz.underlying34 hi037 1 hsz37 ij l0.length ik ag q037 C1; have hr37 := Kd.C_drop (m := (ag : Int).toNat) (c := ik) hC37 (by omega) hroom37; obtain ⟨De, hA37⟩ : ∃ A1, A1 = (if ik = (ag : Int).toNat then ij else (ij : Option Addr).map (·.add ((ag : Int).toNat * 1))) := ⟨_, rfl⟩; obtain ⟨c37, hc37⟩ : ∃ c1, c1 = ik - (ag : Int).toNat := ⟨_, rfl⟩; have vF : dn.length = l0.length - (ag : Int).toNat := (by rw [t2.out, List.length_drop] <;> omega); rw [show (l0).drop (ag : Int).toNat = dn from t2.out.symm] at hr37; replace hr37 : Kd.C (Kd.int .i64) _ De dn.length dn := (by rw [hA37]; exact hr37); rw [← vF, ← hA37, ← hc37] at hcut37; have HR400 := Aside0.mk hr37; have HC400 := Aside0.mk (show dn.length ≤ c37 from by rw [vF, hc37]; exact Nat.sub_le_sub_right hroom37 _); clear hr37 hC37 hroom37 hi037 hsz37 hc37; have KY37 := Aside0.mk vF; have KA37 := Aside0.mk hA37; clear vF hA37; have KL37 := Aside0.mk (show (ag : Int).toNat ≤ l0.length from by omega); replace C1 := eq_true C1) | ((with_reducible refine gate_builtin (b := .append) (xs := #[.tmp 43, .tmp 46]) rfl ?_); at_builtin; refine Kd.R_append_rows (Kd.int .i64) (w0 := w0) w0.heap.size rfl (.tmp 43) (.tmp 46) 34 3 (.int .i64 0) 8 rfl Tryz.underlying34 info3 rfl (by decide) (by omega) v395 eG dn _ _ _ (fun k_ => (P0_ k_ ∨ w.heap.size ≤ k_) ∧ some k_ ≠ (.slice ij l0.length ik : Value).ownBlock) (fun _ => False) rfl rfl ?aO ?aR (fun _ _ h => h) (fun _ h => h.elim) ?aF ?aB ?aS ?aL ?_; (case aR => repeat (first | exact (Z13 HR400) | (with_reducible refine Kd.C_alloc ?_ _) | (with_reducible refine Kd.C_drewN ?_ _) | (with_reducible refine Kd.C_drew ?_))); (case aB => exact Z2); (case aF => exact (fun k_ hk => ⟨(.inr (Nat.le_trans (Z64) hk)), Kd.fresh' (Yd_ br) k_ hk⟩)); (case aO => exact (Z3 t6)); (case aS => exact (below_size (Z2))); (case aL => exact Z83 tO); intro v402 ru ho hb hg hat; rw [← Ny401.out] at ho; refine k6_ (Kd.R_after (ok := (fun k_ => (P0_ k_ ∨ w.heap.size ≤ k_))) (Z3 br) hg hat) (hb) (Kept.of_grown (S := (fun k_ => P0_ k_)) hg (Z28) (fun k_ e_ => (t6.out.1 k_ e_).1)) ((show Kd.C (Kd.int .i64) ru ij eF.length eF from Z91)) ((show Kd.C (Kd.int .i64) ru De dn.length dn from by rw [t2.out, KA37.out]; exact Kd.C_drop (m := (ag : Int).toNat) (c := ik) ((Kd.R_reads' (Kd.R_after (ok := (fun k_ => (P0_ k_ ∨ w.heap.size ≤ k_))) (Z3 br) hg hat)).2.2) KL37.out ((Kd.R_reads' (Kd.R_after (ok := (fun k_ => (P0_ k_ ∨ w.heap.size ≤ k_))) (Z3 br) hg hat)).2.1))) (ho) ?_; clear br HB HK HR390 HR400 t6; intro br HB HK HR390 HR400 HO403; clear ho hb hg hat))
   go_ret
   exact ⟨_, Z9, by (with_reducible repeat (first | apply Kd.R_alloc | apply Kd.R_drewN | apply Kd.R_drew)); exact Kd.R_mono HO403.out (fun _ hk => hk.1), Z2, Z28⟩

end Go.Proofs.YtcpbncljimmkfaaGreatDoor.PFnScans
