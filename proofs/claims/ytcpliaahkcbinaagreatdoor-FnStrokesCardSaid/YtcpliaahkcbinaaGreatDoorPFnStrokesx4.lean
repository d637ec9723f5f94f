import Derived.Test.YtcpliaahkcbinaaGreatDoorPFnStrokesx0
import Derived.Test.YtcpliaahkcbinaaGreatDoorPFnStrokesx2
import Derived.Test.YtcpliaahkcbinaaGreatDoorPFnStrokesx3
namespace Go.Proofs.YtcpliaahkcbinaaGreatDoor.PFnStrokes
open Go.RowKit Go.Proofs.YtcpliaahkcbinaaGreatDoorW.PrintWords Go.Proofs.YtcpliaahkcbinaaGreatDoorW.PrintLast Go.Proofs.YtcpliaahkcbinaaGreatDoorW.PrintMore
attribute [local go_sem] dS_ dV_ eo_ em_ dw_ dx_ dX_ dU_
set_option linter.unusedVariables false
set_option linter.unusedSimpArgs false
theorem kH_ {p : Prop} (h : p := by repeat' first | (with_reducible first | apply ih0 | apply ih0 | apply aP_.mono | apply aP_.mono | exact LeO.refl _ | exact LeO.none _ | refine LeO.ite ?_ ?_ | refine LeO.bind ?_ (fun _ => ?_)) | exact LeO.none _ | refine LeO.ite ?_ ?_ | refine LeO.bind ?_ (fun _ => ?_)) : p := h
def aP_.l0 : Nat → List Int → Int → Int → Int → Option (Int)
 | 0, _, _, _, _ => none
 | k + 1, x0, x1, x7, x8 => if x8 < x7 then (if 0 ≤ x8 then (if x8 < (x0.length : Int) then (if x1 = (rd x0 x8) then (some x8) else (aP_.l0 k x0 x1 x7 (wrap64 (x8 + 1)))) else (none)) else (none)) else (some (-1))
def aP_.f (k : Nat) (l0 : List Int) (a1 : Int) : Option (Int) := aP_.l0 k l0 a1 (l0.length : Int) 0
theorem aP_.mono_l : ∀ k, (∀ y0 y1 y2 y3, LeO (aP_.l0 k y0 y1 y2 y3) (aP_.l0 (k + 1) y0 y1 y2 y3))
 | 0 => fun _ _ _ _ r h => by simp [aP_.l0] at h
 | k + 1 => by
  have ih0 := aP_.mono_l k
  ·intro y0 y1 y2 y3
   unfold aP_.l0
   exact kH_
theorem aP_.mono : ∀ a0 a1 k, LeO (aP_.f k a0 a1) (aP_.f (k + 1) a0 a1) := by
 intro a0 a1 k
 have ih0 := aP_.mono_l k
 unfold aP_.f
 exact kH_
set_option maxHeartbeats 8000000 in
set_option maxRecDepth 100000 in
theorem aP_.calls (k : Nat) (A0 : Option Addr) (c0 : Nat) (l0 : List Int) (a1 : Int) (r : Int) (w : World) (hr0 : Kd.C (Kd.int .i64) w A0 l0.length l0) (hc0 : l0.length ≤ c0) (h : aP_.f k l0 a1 = some r) :
  Calls Tryz.prog 103 #[.slice A0 l0.length c0, .int .i64 a1] w fun e w' => e = .returned (.int .i64 r) ∧ bH_ w w' := by
 have HR0 := aa_.mk hr0
 have HC0 := aa_.mk hc0
 clear hr0 hc0
 have H := h; unfold aP_.f at H
 clear h
 have H' := aa_.mk H
 clear H
 go_enter Tryz.func103, Tryz.ntmps103
 go_wp2
 go_loopg [8] k (fun kq v8 w' => ∃ (cZ : Int), v8 = .int .i64 cZ ∧ aa_ (aP_.l0 kq l0 a1 (l0.length : Int) cZ = some r) ∧ aa_ (kq ≤ k) ∧ bH_ w w')
 case atStart => exact ⟨(0), (Z14), H', ⟨Nat.le_refl _⟩, Z41⟩
 case round =>
  clear H'
  obtain ⟨cZ, rfl, HA, HK1, ⟨m1, rfl⟩⟩ := hrel
  cases gk with
  | zero => exact absurd HA.out (by simp [aP_.l0])
  | succ k1 =>
   have H := HA.out
   clear HA
   simp only [aP_.l0] at H
   replace H := iv_ H; obtain ⟨cU, H⟩ | ⟨cU, H⟩ := H
   ·replace H := id_ H; obtain ⟨da, H⟩ := H
    replace H := id_ H; obtain ⟨dp, H⟩ := H
    replace H := ic_ H; obtain ⟨cC, fR, H⟩ | ⟨cC, fR, c6, H⟩ := H
    ·obtain rfl := Option.some.inj H
     have vq : 0 ≤ (cZ : Int) := of_decide_eq_true (Z8)
     have vr : cZ < (l0.length : Int) := of_decide_eq_true (Z8)
     obtain ⟨ad604, e604, hx604_0⟩ := Kd.at_int HR0.out cZ vq vr
     cases e604
     replace vq := eq_true vq
     replace vr := eq_true vr
     go_wp2
     go_ret
     exact ⟨Z14, Z41⟩
    have H' := aa_.mk H
    clear H
    have vq : 0 ≤ (cZ : Int) := of_decide_eq_true (Z8)
    have vr : cZ < (l0.length : Int) := of_decide_eq_true (Z8)
    obtain ⟨ad604, e604, hx604_0⟩ := Kd.at_int HR0.out cZ vq vr
    cases e604
    replace vq := eq_true vq
    replace vr := eq_true vr
    go_wp2
    go_roundg k1
    case measure => have := HK1.out; omega
    case rel => exact ⟨(wrap64 (cZ + 1)), (Z14), H', ⟨Z91 HK1⟩, Z41⟩
   obtain rfl := Option.some.inj H
   go_wp2
   go_ret
   exact ⟨Z14, Z41⟩
def bc_.f (k : Nat) (l0 : List Int) (a1 : Int) : Option (Bool) := (aP_.f k l0 a1).bind fun xB => (some (decide (xB ≥ 0)))
theorem bc_.mono : ∀ a0 a1 k, LeO (bc_.f k a0 a1) (bc_.f (k + 1) a0 a1) := by
 intro a0 a1 k
 unfold bc_.f
 exact kH_
set_option maxHeartbeats 8000000 in
set_option maxRecDepth 100000 in
theorem bc_.calls (k : Nat) (A0 : Option Addr) (c0 : Nat) (l0 : List Int) (a1 : Int) (r : Bool) (w : World) (hr0 : Kd.C (Kd.int .i64) w A0 l0.length l0) (hc0 : l0.length ≤ c0) (h : bc_.f k l0 a1 = some r) :
  Calls Tryz.prog 77 #[.slice A0 l0.length c0, .int .i64 a1] w fun e w' => e = .returned (.bool r) ∧ bH_ w w' := by
 have HR0 := aa_.mk hr0
 have HC0 := aa_.mk hc0
 clear hr0 hc0
 have H := h; unfold bc_.f at H
 clear h
 replace H := bd_ H; obtain ⟨xB, A3, H⟩ := H
 replace H : (some (decide (xB ≥ 0))) = some r := H
 obtain rfl := Option.some.inj H
 go_enter Tryz.func77, Tryz.ntmps77
 go_wp2_with (((with_reducible refine ae_ (f := 103) rfl ?_); refine gl_ 7 Tryz.func103 #[.slice A0 l0.length c0, .int .i64 a1] ?_; (with_reducible refine (aP_.calls k _ _ l0 a1 xB _ ?_ ?_ A3.out).mono ?_); exact (Z15 HR0); exact HC0.out; rintro e w' ⟨rfl, ⟨nd, rfl⟩⟩; refine ⟨_, rfl, ?_⟩))
 go_ret
 exact ⟨Z14, Z41⟩
def cD_.f (a0 : Int) (a1 : Int) : Option (Int) := some (mx (wrap64 (a0 - a1)) (wrap64 (a1 - a0)))
set_option maxHeartbeats 8000000 in
set_option maxRecDepth 100000 in
theorem cD_.calls (a0 : Int) (a1 : Int) (r : Int) (w : World) (h : cD_.f a0 a1 = some r) :
  Calls Tryz.prog 104 #[.int .i64 a0, .int .i64 a1] w fun e w' => e = .returned (.int .i64 r) ∧ Below w.heap.size w w' := by
 have HB := aa_.mk (Below.refl w.heap.size w)
 have H := h; unfold cD_.f at H
 clear h
 obtain ⟨N6, hji3⟩ : ∃ j_ : Int, (mx (wrap64 (a0 - a1)) (wrap64 (a1 - a0))) = j_ := ⟨_, rfl⟩
 (first | rw [hji3] at H | simp only [hji3] at H)
 have hji3_ : (if (wrap64 (a0 - a1)) < (wrap64 (a1 - a0)) then (wrap64 (a1 - a0)) else (wrap64 (a0 - a1))) = N6 := hji3
 obtain rfl := Option.some.inj H
 go_enter Tryz.func104, Tryz.ntmps104
 go_wp2
 go_ret
 exact ⟨by first | rfl | (simp [cv_, cu_] <;> rfl) | (simp only [← hji3]; first | rfl | (simp [cv_, cu_] <;> rfl)) | (simp [*, cv_, cu_] <;> rfl), Z2⟩
def bB_.f (a0_0 : Int) (a0_1 : Int) (a1_0 : Int) (a1_1 : Int) (a2 : Int) : Option (Int) := (cD_.f a0_1 a1_1).bind fun zL => ((cD_.f a0_0 a1_0).bind fun zM => (some (wrap64 (zL + (wrap64 (a2 * zM))))))
def bB_.T1 : Bool × List (List Nat × List Nat) := (true, [([], []), ([0], [0]), ([], []), ([2], [2]), ([1, 3], [1, 3]), ([], []), ([], []), ([6], [6]), ([], []), ([8], [8]), ([7, 9, 4], [7, 9]), ([5, 10], [5, 10]), ([4, 11], [4, 11]), ([12, 10, 0, 1, 2, 3, 4, 5, 6, 7, 8, 9, 10, 11, 12], [12])])
def bB_.B1 : List Nat := [0, 1, 0, 4, 15, 0, 0, 64, 0, 256, 991, 2047, 4095, 8191]
theorem bB_.tab1 : bI_ .any (dd_ Tryz.f78 1) = bB_.T1 := by kernel_rfl
theorem bB_.bits1 : bQ_ bB_.T1.2 bB_.B1 = true := by kernel_rfl
set_option maxHeartbeats 8000000 in
set_option maxRecDepth 100000 in
theorem bB_.calls (a0_0 : Int) (a0_1 : Int) (a1_0 : Int) (a1_1 : Int) (a2 : Int) (r : Int) (w : World) (h : bB_.f a0_0 a0_1 a1_0 a1_1 a2 = some r) :
  Calls Tryz.prog 78 #[.agg #[.int .i64 a0_0, .int .i64 a0_1], .agg #[.int .i64 a1_0, .int .i64 a1_1], .int .i64 a2] w fun e w' => e = .returned (.int .i64 r) ∧ Below w.heap.size w w' := by
 have hu42 := Tryz.underlying42
 have HB := aa_.mk (Below.refl w.heap.size w)
 have H := h; unfold bB_.f at H
 clear h
 replace H := bd_ H; obtain ⟨zL, A4, H⟩ := H
 replace H := bd_ H; obtain ⟨zM, A5, H⟩ := H
 obtain rfl := Option.some.inj H
 go_enter Tryz.func78, Tryz.ntmps78
 try go_wp2_with (first | ((with_reducible refine au_ (N := 3) rfl ?_); refine bv_ 3 42 #[.int .i64 a0_0, .int .i64 a0_1] ?_; intro mv hg w6 hbox hb; refine k4_ Ws_ (hbox) (Wg_ w mv) (Wg_ w mv) ?_; clear HB; intro HB dy GW606 Dh; clear hb hbox hg) | ((with_reducible refine au_ (N := 4) rfl ?_); refine bv_ 4 42 #[.int .i64 a1_0, .int .i64 a1_1] ?_; intro o7 hg w7 hbox hb; refine k7_ (Ye_ dy) (aq_ (nk_) hb) (hbox) ((by rw [hg]; exact (ao_ (nk_)) : w.heap.size ≤ o7)) ((by rw [hg]; exact (ao_ (nk_)) : w.heap.size ≤ o7)) ((by rw [hg]; exact Nat.ne_of_lt (bV_ (zo_ dy)) : mv ≠ o7)) ((by rw [hg]; exact Nat.ne_of_gt (bV_ (zo_ dy)) : o7 ≠ mv)) ?_; clear dy HB; intro dy HB ey GW607 GE607 NB606_607 NB607_606; clear hb hbox hg))
 refine k3_ (ax_ dy.out) (ax_ ey.out) (av_ HB.out) ?_
 clear dy ey HB
 intro dy ey HB
 refine b2_ (n := 14) (S := fun w' => w'.cell? ⟨mv, 0, none⟩ = some (.int .i64 a0_0) ∧ w'.cell? ⟨mv, 1, none⟩ = some (.int .i64 a0_1) ∧ w'.cell? ⟨o7, 0, none⟩ = some (.int .i64 a1_0) ∧ w'.cell? ⟨o7, 1, none⟩ = some (.int .i64 a1_1)) (ds := []) (M_ 0 14) (by kernel_rfl) rfl rfl ⟨(aE_ dy.out 0).trans rfl, (aE_ dy.out 1).trans rfl, (aE_ ey.out 0).trans rfl, (aE_ ey.out 1).trans rfl⟩ (fun hHeld => ?_); refine bz_ bB_.tab1 bB_.bits1 (fun HT_ HW_ => ?_)
 generalize w7.drew = w8 at dy ey HB hHeld ⊢
 refine pu_ 0 7 (M_ 1 13) ?_
 refine pu_ 2 9 (N_ 14 5) ?_
 refine pu_ 5 12 (N_ 14 37) ?_
 refine pu_ 6 13 (N_ 14 101) ?_
 refine pu_ 8 15 (N_ 14 357) ?_
 refine eF_ 1 8 (N_ 14 359) hHeld ?_
 refine eF_ 3 10 (N_ 14 367) hHeld ?_
 refine eF_ 7 14 (N_ 14 495) hHeld ?_
 refine eF_ 9 16 (N_ 14 1007) hHeld ?_
 refine on_ 4 (some 11) (M_ 10 4) (fun K hK => ?_)
 refine cs_ Tryz.func104 (by kernel_rfl) rfl #[.int .i64 a0_1, .int .i64 a1_1] (by rfl) rfl rfl (Z43) ?_
 with_reducible refine (cD_.calls a0_1 a1_1 zL _ A4.out).mono ?_
 rintro e w9 ⟨rfl, hb⟩
 refine ⟨_, rfl, ?_⟩
 refine k3_ (Ye_ dy) (Ye_ ey) (aq_ (mD_) hb) ?_
 clear dy ey HB
 intro dy ey HB
 (try clear hb)
 refine hK.out _ _ ⟨(aE_ dy.out 0).trans rfl, (aE_ dy.out 1).trans rfl, (aE_ ey.out 0).trans rfl, (aE_ ey.out 1).trans rfl⟩ (fun hHeld => ?_)
 clear hK K
 refine nm_ 11 ?_
 refine on_ 10 (some 17) (M_ 11 3) (fun K hK => ?_)
 refine cs_ Tryz.func104 (by kernel_rfl) rfl #[.int .i64 a0_0, .int .i64 a1_0] (by rfl) rfl rfl (Z43) ?_
 with_reducible refine (cD_.calls a0_0 a1_0 zM _ A5.out).mono ?_
 rintro e jc ⟨rfl, hb⟩
 refine ⟨_, rfl, ?_⟩
 refine k3_ (Ye_ dy) (Ye_ ey) (aq_ (mD_) hb) ?_
 clear dy ey HB
 intro dy ey HB
 refine hK.out _ _ ⟨(aE_ dy.out 0).trans rfl, (aE_ dy.out 1).trans rfl, (aE_ ey.out 0).trans rfl, (aE_ ey.out 1).trans rfl⟩ (fun hHeld => ?_)
 clear hK K
 refine nm_ 17 ?_
 refine pu_ 11 18 (M_ 12 2) ?_
 refine pu_ 12 19 (M_ 13 1) ?_
 refine pu_ 13 6 (M_ 14 0) ?_
 refine cw_ (bS_ HT_.out (by kernel_rfl)) ?_
 try go_wp2
 go_ret
 exact ⟨Z9, mD_⟩
theorem no_ {p : Prop} (h : p := by repeat' first | (with_reducible first | apply ih0 | apply ih0 | apply ih1 | apply ih1 | apply bc_.mono | apply bc_.mono | exact LeO.refl _ | exact LeO.none _ | refine LeO.ite ?_ ?_ | refine LeO.bind ?_ (fun _ => ?_)) | exact LeO.none _ | refine LeO.ite ?_ ?_ | refine LeO.bind ?_ (fun _ => ?_)) : p := h
def aW_ (w0 W : World) (g : Nat) (f0 : List Int) (f1 : Int) : Prop := ∃ (A : Option Addr) (c : Nat), W.heap[g]? = some (.cells #[.slice A f0.length c, .int .i64 f1] 68 (0, 0)) ∧ w0.heap.size ≤ g ∧ Kd.R (Kd.int .i64) 3 W w0.heap.size (fun _ => True) (.slice A f0.length c) f0
def cK_ (W : World) (g : Nat) (row : Option Nat) : Prop := ∀ (v z : Value), W.heap[g]? = some (.cells #[v, z] 68 (0, 0)) → ∀ b, v.ownBlock = some b → row ≠ some b
section
variable {w0 W : World} {g : Nat} {f0 : List Int} {f1 : Int}
theorem aW_.move {W1 : World} (h : aW_ w0 W g f0 f1) (hb : W1.heap[g]? = W.heap[g]?) {q : Nat} (hk : ag_ W W1 q none) (hq : ∀ (v z : Value), W.heap[g]? = some (.cells #[v, z] 68 (0, 0)) → ∀ b, v.ownBlock = some b → b ≠ q) : aW_ w0 W1 g f0 f1 := by
 obtain ⟨A, c, h1, h2, h3⟩ := h
 exact ⟨A, c, hb.trans h1, h2, Kd.pX_ (Kd.p8_ (Kd.qE_ rfl h3) hk (fun k hk_ e => hq _ _ h1 k hk_.symm e)) (fun _ _ => trivial)⟩
theorem aW_.lt (h : aW_ w0 W g f0 f1) : g < W.heap.size := by
 obtain ⟨A, c, h1, _⟩ := h
 exact bV_ h1
theorem aW_.ge (h : aW_ w0 W g f0 f1) : w0.heap.size ≤ g := by
 obtain ⟨A, c, _, h2, _⟩ := h
 exact h2
theorem aW_.row (h : aW_ w0 W g f0 f1) {v z : Value} (h' : W.heap[g]? = some (.cells #[v, z] 68 (0, 0))) : Kd.R (Kd.int .i64) 3 W w0.heap.size (fun _ => True) v f0 := by
 obtain ⟨A, c, h1, h2, h3⟩ := h
 rw [h1] at h'
 injection h' with h'
 injection h' with h' _ _
 simp only [Array.mk.injEq, List.cons.injEq] at h'
 obtain ⟨rfl, _⟩ := h'
 exact h3
theorem aW_.self (h : aW_ w0 W g f0 f1) : ∀ (v z : Value), W.heap[g]? = some (.cells #[v, z] 68 (0, 0)) → ∀ b, v.ownBlock = some b → b ≠ g := by
 intro v z h' b e e2
 subst e2
 exact Kd.qb_ (h.row h') h' (by decide) e.symm
theorem aW_.below {W1 : World} (h : aW_ w0 W g f0 f1) (hw : Below W.heap.size W W1) : aW_ w0 W1 g f0 f1 := h.move (hw.block g h.lt) (ag_.of_below hw g none) h.self
theorem aW_.alloc (h : aW_ w0 W g f0 f1) (o : Obj) : aW_ w0 (W.alloc o) g f0 f1 := h.below (aC_ (Below.refl _ _) o)
theorem aW_.drewN (h : aW_ w0 W g f0 f1) (m : Nat) : aW_ w0 (W.drewN m) g f0 f1 := h.move rfl (c4_ (ag_.refl _ g none) m) h.self
theorem aW_.drew (h : aW_ w0 W g f0 f1) : aW_ w0 W.drew g f0 f1 := h.move rfl (cb_ (ag_.refl _ g none)) h.self
theorem aW_.at_ {w' : World} {m : Nat} (hq : W.drewN m = w') (h : aW_ w0 W g f0 f1) : aW_ w0 w' g f0 f1 := by subst hq; exact aW_.drewN h m
theorem aW_.grown {W1 : World} {row : Option Nat} (h : aW_ w0 W g f0 f1) (hw : W.grownBy W1 row) (hne : some g ≠ row) (hf : cK_ W g row) : aW_ w0 W1 g f0 f1 := by
 have hb := hw.block g h.lt hne
 cases row with
 | none => exact h.move hb ⟨hw.size, fun i hi _ _ => hw.block i hi (by simp)⟩ h.self
 | some b => exact h.move hb (q := b) ⟨hw.size, fun i hi hq _ => hw.block i hi (by simpa using hq)⟩ (fun v z h1 k e e2 => hf v z h1 k e (congrArg some e2.symm))
theorem aW_.apart {α : Type} {d : Kd α} {e : Nat} {base : Nat} {ok : Nat → Prop} {v : Value} {xs : List α} (h : aW_ w0 W g f0 f1) (ho : d.R e W base ok v xs) (ht : ∀ q, q ∈ e :: d.E → q ≠ 68) : d.R e W base (fun k => ok k ∧ k ≠ g) v xs := by
 obtain ⟨A, c, hb, _⟩ := h
 exact Kd.qf_ ho hb ht
theorem aW_.own_ne {α : Type} {d : Kd α} {e : Nat} {base : Nat} {ok : Nat → Prop} {v : Value} {xs : List α} (h : aW_ w0 W g f0 f1) (ho : d.R e W base ok v xs) (ht : e ≠ 68) : some g ≠ v.ownBlock := by
 obtain ⟨A, c, hb, _⟩ := h
 exact Kd.qb_ ho hb ht
theorem aW_.farN {W1 : World} {α : Type} {d : Kd α} {e : Nat} {ok : Nat → Prop} {v : Value} {xs : List α} (h : aW_ w0 W g f0 f1) (ho : d.R e W1 W.heap.size ok v xs) (hb : Below W.heap.size W W1) : cK_ W1 g v.ownBlock := by
 intro u z h1 b e e2
 rw [hb.block g h.lt] at h1
 have := Kd.qr_ (h.row h1) b e
 have := Kd.p9_ ho b e2
 omega
theorem aW_.farA {W1 : World} {b : Nat} (h : aW_ w0 W g f0 f1) (hg : b = W.heap.size) (hb : Below W.heap.size W W1) : cK_ W1 g (some b) := by
 intro v z h1 k e e2
 rw [hb.block g h.lt] at h1
 have := Kd.qr_ (h.row h1) k e
 have := Option.some.inj e2
 omega
theorem cK_.drewN {row : Option Nat} (h : cK_ W g row) (m : Nat) : cK_ (W.drewN m) g row := h
theorem cK_.drew {row : Option Nat} (h : cK_ W g row) : cK_ W.drew g row := h
theorem cK_.below {W1 : World} {row : Option Nat} (hlt : g < W.heap.size) (h : cK_ W g row) (hb : Below W.heap.size W W1) : cK_ W1 g row := by
 intro v z h1
 rw [hb.block g hlt] at h1
 exact h v z h1
theorem cK_.alloc {row : Option Nat} (hlt : g < W.heap.size) (h : cK_ W g row) (o : Obj) : cK_ (W.alloc o) g row := cK_.below hlt h (aC_ (Below.refl _ _) o)
theorem cK_.far {row : Option Nat} {p : Addr} (hne : g ≠ p.block) (h : cK_ W g row) (u : Value) : cK_ (W.setCell p u) g row := by
 intro v z h1
 rw [Below.heap_setCell W p u g hne] at h1
 exact h v z h1
theorem aW_.far {p : Addr} (h : aW_ w0 W g f0 f1) (hne : g ≠ p.block) (hf : cK_ W g (some p.block)) (u : Value) : aW_ w0 (W.setCell p u) g f0 f1 :=
 h.move (Below.heap_setCell W p u g hne) (q := p.block) ⟨by simp [World.setCell], fun i _ hq _ => Below.heap_setCell W p u i hq⟩ (fun v z h1 k e e2 => hf v z h1 k e (congrArg some e2.symm))
theorem dG_ {v z : Value} (h : W.heap[g]? = some (.cells #[v, z] 68 (0, 0))) : W.cell? ⟨g, 0, none⟩ = some v := (aE_ h 0).trans rfl
theorem dK_ {v z : Value} (h : W.heap[g]? = some (.cells #[v, z] 68 (0, 0))) : W.cell? ⟨g, 1, none⟩ = some z := (aE_ h 1).trans rfl
theorem aW_.store {base : Nat} {ok : Nat → Prop} {A1 : Option Addr} {c1 : Nat} {l1 : List Int} (h : aW_ w0 W g f0 f1) (ho : Kd.R (Kd.int .i64) 3 W base ok (.slice A1 l1.length c1) l1) (hle : w0.heap.size ≤ base) (x : Int) : aW_ w0 ((W.setCell ⟨g, 0, none⟩ (.slice A1 l1.length c1)).setCell ⟨g, 1, none⟩ (.int .i64 x)) g l1 x := by
 have hr := Kd.pX_ (Kd.pY_ (h.apart ho (by decide)) hle) (ok' := fun k => k ≠ g) (fun _ hk => hk.2)
 obtain ⟨A0, c0, h1, h2, _⟩ := h
 exact ⟨A1, c1, bb_ (bb_ h1 0 _ rfl) 1 _ rfl, h2, Kd.pX_ (Kd.p8_ hr (ag_.set_ (ag_.set_ (ag_.refl _ g none) 0 _) 1 _) (fun _ hk => hk)) (fun _ _ => trivial)⟩
end
mutual
def aB_.l0 : Nat → List (S42) → List Int → Int → Int → Int → Int → List Int → Int → Option (List Int × Int)
 | 0, _, _, _, _, _, _, _, _ => none
 | k + 1, x0, x1, x2, x3, x40, x41, zN, zO => if x41 < x40 then ((bc_.f k x1 x41).bind fun Hr => (if Hr = true then (aB_.l0 k x0 x1 x2 x3 x40 (wrap64 (x41 + 1)) zN zO) else (if 0 ≤ (wrap64 ((x1.length : Int) - 1)) then (if (wrap64 ((x1.length : Int) - 1)) < (x1.length : Int) then (if 0 ≤ (rd x1 (wrap64 ((x1.length : Int) - 1))) then (if (rd x1 (wrap64 ((x1.length : Int) - 1))) < (x0.length : Int) then (if 0 ≤ x41 then (if x41 < (x0.length : Int) then ((bB_.f ((ac_ x0 (rd x1 (wrap64 ((x1.length : Int) - 1)))).f0) ((ac_ x0 (rd x1 (wrap64 ((x1.length : Int) - 1)))).f1) ((ac_ x0 x41).f0) ((ac_ x0 x41).f1) x3).bind fun sd => ((bp_.f x1).bind fun oJ => (if oJ.length < 17592186044416 then ((aB_.f k x0 (oJ ++ [x41]) (wrap64 (x2 + sd)) x3 zN zO).bind fun mw => (aB_.l0 k x0 x1 x2 x3 x40 (wrap64 (x41 + 1)) mw.1 mw.2)) else (none)))) else (none)) else (none)) else (none)) else (none)) else (none)) else (none)))) else (some (zN, zO))
def aB_.f : Nat → List (S42) → List Int → Int → Int → List Int → Int → Option (List Int × Int)
 | 0, _, _, _, _, _, _ => none
 | k + 1, l0, l1, a2, a3, s4_0, s4_1 => if (l1.length : Int) = (l0.length : Int) then (if s4_1 < 0 then ((bp_.f l1).bind fun xC => (some (xC, a2))) else (if a2 < s4_1 then ((bp_.f l1).bind fun xD => (some (xD, a2))) else (some (s4_0, s4_1)))) else (aB_.l0 k l0 l1 a2 a3 (l0.length : Int) 0 s4_0 s4_1)
end
theorem aB_.mono_l : ∀ k, (∀ y0 y1 y2 y3 y4 y5, LeO (aB_.f k y0 y1 y2 y3 y4 y5) (aB_.f (k + 1) y0 y1 y2 y3 y4 y5)) ∧ (∀ y0 y1 y2 y3 y4 y5 y6 y7, LeO (aB_.l0 k y0 y1 y2 y3 y4 y5 y6 y7) (aB_.l0 (k + 1) y0 y1 y2 y3 y4 y5 y6 y7))
 | 0 => ⟨fun _ _ _ _ _ _ r h => by simp [aB_.f] at h, fun _ _ _ _ _ _ _ _ r h => by simp [aB_.l0] at h⟩
 | k + 1 => by
  obtain ⟨ih0, ih1⟩ := aB_.mono_l k
  refine ⟨?_, ?_⟩
  ·intro y0 y1 y2 y3 y4 y5
   unfold aB_.f
   exact no_
  intro y0 y1 y2 y3 y4 y5 y6 y7
  unfold aB_.l0
  exact no_
theorem aB_.mono : ∀ a0 a1 a2 a3 a4 a5 k, LeO (aB_.f k a0 a1 a2 a3 a4 a5) (aB_.f (k + 1) a0 a1 a2 a3 a4 a5) := by
 intro a0 a1 a2 a3 a4 a5 k
 obtain ⟨ih0, ih1⟩ := aB_.mono_l k
 exact ih0 a0 a1 a2 a3 a4 a5
def aB_.T7 : Bool × List (List Nat × List Nat) := (true, [([], []), ([], []), ([], []), ([2], [2]), ([3], [3]), ([1, 4], [1, 4]), ([5], [5]), ([0, 6], [0, 6]), ([7], [7]), ([], []), ([], []), ([9, 10], [9, 10]), ([11], [11]), ([], []), ([8, 12, 13], [8, 12, 13]), ([14, 14, 0, 1, 2, 3, 4, 5, 6, 7, 8, 9, 10, 11, 12, 13, 14], [14])])
def aB_.B7 : List Nat := [0, 0, 0, 4, 12, 30, 62, 127, 255, 0, 0, 1536, 3584, 0, 16383, 32767]
theorem aB_.tab7 : bI_ .any (dd_ Tryz.f42 7) = aB_.T7 := by kernel_rfl
theorem aB_.bits7 : bQ_ aB_.T7.2 aB_.B7 = true := by kernel_rfl
set_option maxHeartbeats 8000000 in
set_option maxRecDepth 100000 in
theorem aB_.calls (k : Nat) : ∀ (A0 : Option Addr) (c0 : Nat) (l0 : List (S42)) (A1 : Option Addr) (c1 : Nat) (l1 : List Int) (a2 : Int) (a3 : Int) (g : Nat) (s4_0 : List Int) (s4_1 : Int) (r1 : List Int) (r2 : Int) (w0 w : World) (hI : aW_ w0 w g s4_0 s4_1) (hB : Below w0.heap.size w0 w) (hr0 : ∀ W_, ag_ w W_ g none → Kd.C k42 W_ A0 l0.length l0) (hc0 : l0.length ≤ c0) (hr1 : Kd.C (Kd.int .i64) w A1 l1.length l1) (hc1 : l1.length ≤ c1) (hf1 : ∀ ad, A1 = some ad → 0 < l1.length → ad.block ≠ g) (h : aB_.f k l0 l1 a2 a3 s4_0 s4_1 = some (r1, r2)),
  Calls Tryz.prog 42 #[.slice A0 l0.length c0, .slice A1 l1.length c1, .int .i64 a2, .int .i64 a3, .pointer (some ⟨g, 0, none⟩)] w fun e w' => e = .returned (.tuple #[]) ∧ aW_ w0 w' g r1 r2 ∧ Below w0.heap.size w0 w' ∧ ag_ w w' g none := by
 induction k using Nat.strongRecOn with
 | _ k ih =>
 intro A0 c0 l0 A1 c1 l1 a2 a3 g s4_0 s4_1 r1 r2 w0 w hI hB hr0 hc0 hr1 hc1 hf1 h
 cases k with
 | zero => exact absurd h (by simp [aB_.f])
 | succ k =>
 simp only [aB_.f] at h
 have hu42 := Tryz.underlying42
 have HR0 := aa_.mk hr0
 have HC0 := aa_.mk hc0
 clear hr0 hc0
 have HR1 := aa_.mk hr1
 have HC1 := aa_.mk hc1
 clear hr1 hc1
 have HI4 := aa_.mk hI
 have HK := aa_.mk (ag_.refl w g none)
 have HL := aa_.mk hB.size
 clear hI
 have HW0 := aa_.mk hB.size
 have HB := aa_.mk hB
 clear hB
 have H : (if (l1.length : Int) = (l0.length : Int) then (if s4_1 < 0 then ((bp_.f l1).bind fun xC => (some (xC, a2))) else (if a2 < s4_1 then ((bp_.f l1).bind fun xD => (some (xD, a2))) else (some (s4_0, s4_1)))) else (aB_.l0 k l0 l1 a2 a3 (l0.length : Int) 0 s4_0 s4_1)) = some (r1, r2) := h
 clear h
 replace H := iw_ H; obtain ⟨c6, H⟩ | ⟨c6, H⟩ := H
 ·have cC : ((l1.length : Int) == (l0.length : Int)) = true := beq_iff_eq.mpr c6
  have fR : ((l1.length : Int) != (l0.length : Int)) = false := bne_eq_false_iff_eq.mpr c6
  have Gr : (l1.length == l0.length) = true := by first | simpa using c6 | (simp at c6 ⊢; omega)
  clear c6
  replace H := iv_ H; obtain ⟨dJ, H⟩ | ⟨dJ, H⟩ := H
  ·replace H := bd_ H; obtain ⟨xC, A8, H⟩ := H
   replace H : (some (xC, a2)) = some (r1, r2) := H
   obtain ⟨rfl, rfl⟩ := sp_ H; clear H
   obtain ⟨Az_, cz_, HGz9, hgz9, _⟩ := HI4.out
   have el := dG_ HGz9
   have eN := dK_ HGz9
   have eO := a1_ HGz9 0
   have eP := a1_ HGz9 1
   clear HGz9 hgz9
   go_enter Tryz.func42, Tryz.ntmps42
   go_wp2_with (((with_reducible refine ae_ (f := 67) rfl ?_); refine gl_ 33 Tryz.func67 #[.slice A1 l1.length c1] ?_; (with_reducible refine (bp_.calls _ _ l1 xC _ ?_ ?_ A8.out).mono ?_); exact Kd.qu_ 0 HR1.out (Z6) hf1; exact HC1.out; rintro e jc ⟨v152, rfl, ho0, hb⟩; refine ⟨_, rfl, ?_⟩; refine k4_ (Kd.pY_ ho0 (a9_ (w := w) (g := g) (row := none) (Z6))) (aW_.below (Z45) hb) Wl_ (aq_ (Z44) hb) ?_; clear HI4 HK HB; intro DW HI4 HK HB; (try clear hb ho0); obtain ⟨Az_, cz_, HGz11, hgz11, _⟩ := HI4.out; have fj := dG_ HGz11; have gp := dK_ HGz11; have fk := a1_ HGz11 0; have gq := a1_ HGz11 1; clear HGz11 hgz11; obtain ⟨AoS, coS, eoS⟩ := Kd.pW_ DW.out; subst eoS))
   first | go_end0 | ((try simp only [Exit.inBlock, Exit.then]); refine bodyPost_ret (results_none rfl _ _ _) rfl ?_)
   exact ⟨Z9, aW_.store HI4.out DW.out HL.out a2, Z44, Z6⟩
  replace H := iv_ H; obtain ⟨fm, H⟩ | ⟨fm, H⟩ := H
  ·replace H := bd_ H; obtain ⟨xD, zw, H⟩ := H
   replace H : (some (xD, a2)) = some (r1, r2) := H
   obtain ⟨rfl, rfl⟩ := sp_ H; clear H
   obtain ⟨Az_, cz_, HGz14, hgz14, _⟩ := HI4.out
   have m3 := dG_ HGz14
   have m4 := dK_ HGz14
   have m5 := a1_ HGz14 0
   have m6 := a1_ HGz14 1
   clear HGz14 hgz14
   go_enter Tryz.func42, Tryz.ntmps42
   go_wp2_with (((with_reducible refine ae_ (f := 67) rfl ?_); refine gl_ 33 Tryz.func67 #[.slice A1 l1.length c1] ?_; (with_reducible refine (bp_.calls _ _ l1 xD _ ?_ ?_ zw.out).mono ?_); exact Kd.qu_ 0 HR1.out (Z6) hf1; exact HC1.out; rintro e jd ⟨v155, rfl, ho0, hb⟩; refine ⟨_, rfl, ?_⟩; refine k4_ (Kd.pY_ ho0 (a9_ (w := w) (g := g) (row := none) (Z6))) (aW_.below (Z45) hb) Wl_ (aq_ (Z44) hb) ?_; clear HI4 HK HB; intro DX HI4 HK HB; (try clear hb ho0); obtain ⟨Az_, cz_, HGz16, hgz16, _⟩ := HI4.out; have iu := dG_ HGz16; have iv := dK_ HGz16; have iw := a1_ HGz16 0; have ix := a1_ HGz16 1; clear HGz16 hgz16; obtain ⟨AoS, coS, eoS⟩ := Kd.pW_ DX.out; subst eoS))
   first | go_end0 | ((try simp only [Exit.inBlock, Exit.then]); refine bodyPost_ret (results_none rfl _ _ _) rfl ?_)
   exact ⟨Z9, aW_.store HI4.out DX.out HL.out a2, Z44, Z6⟩
  obtain ⟨rfl, rfl⟩ := sp_ H; clear H
  obtain ⟨Az_, cz_, HGz17, hgz17, _⟩ := HI4.out
  have pk := dG_ HGz17
  have pl := dK_ HGz17
  have pm := a1_ HGz17 0
  have pn := a1_ HGz17 1
  clear HGz17 hgz17
  go_enter Tryz.func42, Tryz.ntmps42
  go_wp2
  first | go_end0 | ((try simp only [Exit.inBlock, Exit.then]); refine bodyPost_ret (results_none rfl _ _ _) rfl ?_)
  exact ⟨Z9, Z45, Z44, Z6⟩
 have cC : ((l1.length : Int) == (l0.length : Int)) = false := beq_eq_false_iff_ne.mpr c6
 have fR : ((l1.length : Int) != (l0.length : Int)) = true := bne_iff_ne.mpr c6
 have Gr : (l1.length == l0.length) = false := by first | simpa using c6 | (simp at c6 ⊢; omega)
 have H' := aa_.mk H
 clear H
 go_enter Tryz.func42, Tryz.ntmps42
 go_wp2
 go_loopg [41] k (fun kq v41 w' => ∃ (bY : Int) (eI : List Int) (eJ : Int), v41 = .int .i64 bY ∧ aa_ (aB_.l0 kq l0 l1 a2 a3 (l0.length : Int) bY eI eJ = some (r1, r2)) ∧ aa_ (kq ≤ k) ∧ aa_ (aW_ w0 w' g eI eJ) ∧ aa_ (ag_ w w' g none) ∧ aa_ (Below w0.heap.size w0 w'))
 case atStart => exact ⟨(0), (s4_0), (s4_1), (Z14), H', ⟨Nat.le_refl _⟩, ⟨Z45⟩, ⟨Z6⟩, ⟨Z44⟩⟩
 case round =>
  clear H'
  (try clear c1); (try clear c6); (try clear cC); (try clear fR); (try clear Gr)
  obtain ⟨bY, eI, eJ, rfl, HA, HK1, HI4, HK, HB⟩ := hrel
  cases gk with
  | zero => exact absurd HA.out (by simp [aB_.l0])
  | succ k1 =>
   have H := HA.out
   clear HA
   simp only [aB_.l0] at H
   replace H := iv_ H; obtain ⟨eQ, H⟩ | ⟨eQ, H⟩ := H
   ·replace H := bd_ H; obtain ⟨Hr, NQ, H⟩ := H
    replace H := it_ H; obtain ⟨rfl, H⟩ | ⟨rfl, H⟩ := H
    ·have H' := aa_.mk H
     clear H
     go_wp2_with (((with_reducible refine ae_ (f := 77) rfl ?_); refine gl_ 46 Tryz.func77 #[.slice A1 l1.length c1, .int .i64 bY] ?_; (with_reducible refine (bc_.calls k1 _ _ l1 bY true _ ?_ ?_ NQ.out).mono ?_); exact Kd.qu_ 0 HR1.out (Z6) hf1; exact HC1.out; rintro e w' ⟨rfl, ⟨nd, rfl⟩⟩; refine ⟨_, rfl, ?_⟩))
     go_roundg k1
     case measure => have := HK1.out; omega
     case rel => exact ⟨(wrap64 (bY + 1)), (eI), (eJ), (Z14), H', ⟨Z91 HK1⟩, ⟨Z45⟩, ⟨Z6⟩, ⟨Z44⟩⟩
    obtain ⟨dd, hji21⟩ : ∃ j_ : Int, (wrap64 ((l1.length : Int) - 1)) = j_ := ⟨_, rfl⟩
    (first | rw [hji21] at H | simp only [hji21] at H)
    (try rw [hji21] at NQ)
    have hji21w : (IntKind.i64.wrap ((l1.length : Int) - 1)) = dd := (bA_ _).trans hji21
    replace H := id_ H; obtain ⟨o0, H⟩ := H
    replace H := id_ H; obtain ⟨zf, H⟩ := H
    replace H := id_ H; obtain ⟨zg, H⟩ := H
    replace H := id_ H; obtain ⟨DE, H⟩ := H
    replace H := id_ H; obtain ⟨yY, H⟩ := H
    replace H := id_ H; obtain ⟨d5, H⟩ := H
    replace H := bd_ H; obtain ⟨sd, DM, H⟩ := H
    replace H := bd_ H; obtain ⟨oJ, lO, H⟩ := H
    replace H := ia_ H; obtain ⟨zQ, H⟩ := H
    generalize e_ : ((oJ ++ [bY]) : List Int) = Hs at H
    have Ny165 := aa_.mk e_.symm; clear e_
    replace H := bd_ H; obtain ⟨⟨Kr, Ks⟩, Jg, H⟩ := H
    (try dsimp only at H)
    have H' := aa_.mk H
    clear H
    try go_wp2_with (((with_reducible refine ae_ (f := 77) rfl ?_); refine gl_ 46 Tryz.func77 #[.slice A1 l1.length c1, .int .i64 bY] ?_; (with_reducible refine (bc_.calls k1 _ _ l1 bY false _ ?_ ?_ NQ.out).mono ?_); exact Kd.qu_ 0 HR1.out (Z6) hf1; exact HC1.out; rintro e w' ⟨rfl, ⟨nd, rfl⟩⟩; refine ⟨_, rfl, ?_⟩))
    (try (rw [e8_ wr]; generalize hq_ : World.drewN wr _ = wr; have n0_ : aa_ (aW_ w0 wr g eI eJ) := ⟨by rw [← hq_]; exact Z45⟩; have n1_ : aa_ (ag_ w wr g none) := ⟨by rw [← hq_]; exact Z6⟩; have n2_ : aa_ (Below w0.heap.size w0 wr) := ⟨by rw [← hq_]; exact Z44⟩; clear HI4 HK HB hq_; have HI4 := n0_; have HK := n1_; have HB := n2_; clear n0_ n1_ n2_))
    refine k3_ (aW_.drew HI4.out) (cb_ HK.out) (av_ HB.out) ?_
    clear HI4 HK HB
    intro HI4 HK HB
    have Ht : 0 ≤ ((dd) : Int) := of_decide_eq_true (Z8)
    have Hu : (dd) < (l1.length : Int) := of_decide_eq_true (Z8)
    obtain ⟨n4, e158, ni⟩ := Kd.at_int HR1.out (dd) Ht Hu
    have hw158_0 := ni
    cases e158
    have hne158_0 := (show ((n4.add ((dd)).toNat) : Addr).block ≠ g from by first | (rw [bo_]; exact hf1 n4 rfl (by omega)) | (show (Addr.add _ _).block ≠ _; rw [bo_]; exact hf1 n4 rfl (by omega)) | exact hf1 n4 rfl (by omega))
    replace ni := cR_ HK.out ni (by first | (rw [bo_]; exact hf1 _ rfl (by omega)) | exact hf1 _ rfl (by omega) | exact hf1 n4 rfl (by omega))
    replace Ht := eq_true Ht
    replace Hu := eq_true Hu
    have Hv : 0 ≤ ((rd l1 (dd)) : Int) := of_decide_eq_true (Z8)
    have Hw : (rd l1 (dd)) < (l0.length : Int) := of_decide_eq_true (Z8)
    obtain ⟨fv, e159, pL, pM⟩ := cZ_ (Kd.qq_ HR0.out HK.out) (rd l1 (dd)) Hv Hw
    have hw159_1 := pM
    have hw159_0 := pL
    cases e159
    have hne159_1 := (show (⟨(fv.add (((rd l1 (dd))).toNat * 2)).block, (fv.add (((rd l1 (dd))).toNat * 2)).off + 1, none⟩ : Addr).block ≠ g from Z52 HR0)
    have hlt159_1 := (Kd.foot_lt HR0.out (by omega) (by decide))
    have hne159_0 := (show ((fv.add (((rd l1 (dd))).toNat * 2)) : Addr).block ≠ g from Z52 HR0)
    have hlt159_0 := (Kd.foot_lt HR0.out (by omega) (by decide))
    replace Hv := eq_true Hv
    replace Hw := eq_true Hw
    have Hx : 0 ≤ (bY : Int) := of_decide_eq_true (Z8)
    have Hy : bY < (l0.length : Int) := of_decide_eq_true (Z8)
    obtain ⟨ad160, e160, pN, pO⟩ := cZ_ (Kd.qq_ HR0.out HK.out) bY Hx Hy
    have hw160_1 := pO
    have hw160_0 := pN
    obtain rfl : fv = ad160 := (by injection e160)
    have hne160_1 := (show (⟨(fv.add ((bY).toNat * 2)).block, (fv.add ((bY).toNat * 2)).off + 1, none⟩ : Addr).block ≠ g from Z52 HR0)
    have hlt160_1 := (Kd.foot_lt HR0.out (by omega) (by decide))
    have hne160_0 := (show ((fv.add ((bY).toNat * 2)) : Addr).block ≠ g from Z52 HR0)
    have hlt160_0 := (Kd.foot_lt HR0.out (by omega) (by decide))
    replace Hx := eq_true Hx
    replace Hy := eq_true Hy
    refine b2_ (n := 16) (S := fun w' => w'.cell? (n4.add ((dd)).toNat) = some (.int .i64 (rd l1 (dd))) ∧ w'.cell? (fv.add (((rd l1 (dd))).toNat * 2)) = some (.int .i64 ((ac_ l0 (rd l1 (dd))).f0)) ∧ w'.cell? ⟨(fv.add (((rd l1 (dd))).toNat * 2)).block, (fv.add (((rd l1 (dd))).toNat * 2)).off + 1, none⟩ = some (.int .i64 ((ac_ l0 (rd l1 (dd))).f1)) ∧ w'.cell? (fv.add ((bY).toNat * 2)) = some (.int .i64 ((ac_ l0 bY).f0)) ∧ w'.cell? ⟨(fv.add ((bY).toNat * 2)).block, (fv.add ((bY).toNat * 2)).off + 1, none⟩ = some (.int .i64 ((ac_ l0 bY).f1))) (ds := []) (M_ 0 16) (by kernel_rfl) rfl rfl ⟨(cR_ HK.out hw158_0 hne158_0), pL, pM, pN, pO⟩ (fun hHeld => ?_); refine bz_ aB_.tab7 aB_.bits7 (fun HT_ HW_ => ?_)
    generalize wr.drew = wo at HI4 HK HB ni pL pM pN pO hHeld ⊢
    refine pu_ 0 47 (M_ 1 15) ?_
    refine pu_ 1 48 (M_ 2 14) ?_
    refine pu_ 2 49 (M_ 3 13) ?_
    refine pu_ 3 50 (M_ 4 12) ?_
    refine pu_ 4 51 (M_ 5 11) ?_
    refine pu_ 5 52 (M_ 6 10) ?_
    refine pu_ 9 56 (N_ 16 575) ?_
    refine pu_ 10 57 (N_ 16 1599) ?_
    refine pu_ 11 58 (N_ 16 3647) ?_
    refine pu_ 13 60 (N_ 16 11839) ?_
    refine mz_ 6 53 (N_ 16 11903) hHeld ?_
    refine pu_ 7 54 (N_ 16 12031) ?_
    refine mz_ 8 55 (N_ 16 12287) hHeld ?_
    refine mz_ 12 59 (M_ 14 2) hHeld ?_
    refine on_ 14 (some 61) (M_ 15 1) (fun K hK => ?_)
    refine cs_ Tryz.func78 (by kernel_rfl) rfl #[.agg #[.int .i64 ((ac_ l0 (rd l1 (dd))).f0), .int .i64 ((ac_ l0 (rd l1 (dd))).f1)], .agg #[.int .i64 ((ac_ l0 bY).f0), .int .i64 ((ac_ l0 bY).f1)], .int .i64 a3] (by rfl) rfl rfl (by (try simp only [List.map_toArray, List.map_cons, List.map_nil]); first | done | (simp only [hji21]; rfl) | rfl | (simp only [List.length_drop, List.length_take]; rfl)) ?_
    with_reducible refine (bB_.calls ((ac_ l0 (rd l1 (dd))).f0) ((ac_ l0 (rd l1 (dd))).f1) ((ac_ l0 bY).f0) ((ac_ l0 bY).f1) a3 sd _ DM.out).mono ?_
    rintro e m9 ⟨rfl, hb⟩
    have HS1_ := (hb.cell (World.block_lt_of_cell? _ _ (hHeld.2.1))).trans (hHeld.2.1)
    have HS2_ := (hb.cell (World.block_lt_of_cell? _ _ (hHeld.2.2.1))).trans (hHeld.2.2.1)
    have HS3_ := (hb.cell (World.block_lt_of_cell? _ _ (hHeld.2.2.2.1))).trans (hHeld.2.2.2.1)
    have HS4_ := (hb.cell (World.block_lt_of_cell? _ _ (hHeld.2.2.2.2))).trans (hHeld.2.2.2.2)
    refine ⟨_, rfl, ?_⟩
    refine k3_ (aW_.below (Z45) hb) Wl_ (aq_ (Z44) hb) ?_
    clear HI4 HK HB
    intro HI4 HK HB
    (try clear hb)
    refine hK.out _ _ ⟨(cR_ HK.out hw158_0 hne158_0), HS1_, HS2_, HS3_, HS4_⟩ (fun hHeld => ?_)
    clear hK K
    refine nm_ 61 ?_
    refine pu_ 15 11 (M_ 16 0) ?_
    refine cw_ (bS_ HT_.out (by kernel_rfl)) ?_
    try go_wp2_with (first | ((with_reducible refine ae_ (f := 67) rfl ?_); refine gl_ 64 Tryz.func67 #[.slice (some n4) l1.length c1] ?_; (with_reducible refine (bp_.calls _ _ l1 oJ _ ?_ ?_ lO.out).mono ?_); exact Kd.qu_ 0 HR1.out (Z6) hf1; exact HC1.out; rintro e ws ⟨v163, rfl, ho0, hb⟩; refine ⟨_, rfl, ?_⟩; have nf_ := aa_.mk (aW_.farN (oV_ HI4) ho0 hb); have n0_ := aa_.mk (Kd.pY_ ho0 (a9_ (w := w) (g := g) (row := none) (Z6))); have n1_ := aa_.mk (aW_.below (Z45) hb); have n2_ := aa_.mk Wl_; have n3_ := aa_.mk (aq_ (Z44) hb); clear HI4; clear HK; clear HB; have wA := n0_; have NF := nf_; clear nf_; have HI4 := n1_; have HK := n2_; have HB := n3_; clear n0_ n1_ n2_ n3_; (try clear hb ho0)) | ((with_reducible refine bh_ (b := .append) (xs := #[.tmp 64, .tmp 66]) rfl ?_); at_builtin; refine oS_ w.heap.size (.tmp 64) (.tmp 66) v163 oJ bY [.int .i64 bY] (fun _ => True) rfl rfl ?aP ?aF ?aO (Below.refl _ _) ?aS ?aL ?_; (case aP => exact rfl); (case aF => exact (fun _ _ => trivial)); (case aO => exact (Z1 wA)); (case aS => exact (a9_ (w := w) (g := g) (row := none) (Z6))); (case aL => exact Z91 zQ); intro v166 lN ho hb hg hat; rw [← Ny165.out] at ho; refine k4_ (aW_.grown (Z45) hg (aW_.own_ne HI4.out wA.out (by decide)) (by repeat (first | exact NF.out | apply cK_.drewN | apply cK_.drew | refine cK_.alloc (aW_.lt HI4.out) ?_ _))) (cN_ (Z44) HL.out hb) (ag_.trans (Z6) (ag_.of_grown hg g) (Kd.qk_ wA.out)) (ho) ?_; clear HI4 HB HK wA; intro HI4 HB HK n5; clear ho hb hg hat; obtain ⟨Ao36, co36, eo36⟩ := Kd.pW_ n5.out; subst eo36) | ((with_reducible refine ae_ (f := 42) rfl ?_); refine gl_ 73 Tryz.func42 #[.slice (some fv) l0.length c0, .slice Ao36 Hs.length co36, .int .i64 (wrap64 (a2 + sd)), .int .i64 a3, .pointer (some ⟨g, 0, none⟩)] ?_; (with_reducible refine (ih k1 (Z91 HK1) _ _ l0 _ _ Hs (wrap64 (a2 + sd)) a3 g eI eJ Kr Ks w0 _ ?side1 ?side2 ?side3 ?side4 ?side5 ?side6 ?side7 Jg.out).mono ?_); (case side1 => exact Z45); (case side2 => exact Z44); (case side3 => exact Kd.qz_ HR0.out (Z6)); (case side4 => exact HC0.out); (case side5 => exact Z3 n5); (case side6 => exact (Kd.pV_ n5.out).2.1); (case side7 => exact ci_ (aW_.own_ne HI4.out n5.out (by decide))); rintro e Jh ⟨rfl, hi, hb, hk⟩; refine ⟨_, rfl, ?_⟩; refine k4_ (Kd.pX_ (Kd.p8_ (aW_.apart (show aW_ w0 _ g eI eJ from Z45) (Z1 n5) (by decide)) hk (fun _ h => h.2)) (fun _ h => h.1)) Wk_ (hb) (hi) ?_; clear n5 HK HB HI4; intro n5 HK HB HI4; (try clear hb hk hi)))
    go_roundg k1
    case measure => have := HK1.out; omega
    case rel => exact ⟨(wrap64 (bY + 1)), (Kr), (Ks), (Z14), H', ⟨Z91 HK1⟩, ⟨Z45⟩, ⟨Z6⟩, ⟨Z44⟩⟩
   obtain ⟨rfl, rfl⟩ := sp_ H; clear H
   go_wp2
   first | go_end0 | ((try simp only [Exit.inBlock, Exit.then]); refine bodyPost_ret (results_none rfl _ _ _) rfl ?_)
   exact ⟨Z9, Z45, Z44, Z6⟩
theorem hx_ {p : Prop} (h : p := by repeat' first | (with_reducible first | apply ih0 | apply ih0 | apply ih1 | apply ih1 | apply ap_.mono | apply ap_.mono | apply cQ_.mono | apply cQ_.mono | apply cV_.mono | apply cV_.mono | exact LeO.refl _ | exact LeO.none _ | refine LeO.ite ?_ ?_ | refine LeO.bind ?_ (fun _ => ?_)) | exact LeO.none _ | refine LeO.ite ?_ ?_ | refine LeO.bind ?_ (fun _ => ?_)) : p := h
def cQ_.f (k : Nat) (l : List (S42)) (a : Int) : Option (List Int) := (aB_.f k l [0] 0 a [] (-1)).map Prod.fst
def cV_.f (k : Nat) (l : List (S42)) (a : Int) : Option Int := (aB_.f k l [0] 0 a [] (-1)).map Prod.snd
theorem cQ_.mono (l : List (S42)) (a : Int) (k : Nat) : LeO (cQ_.f k l a) (cQ_.f (k + 1) l a) := by
 intro r h
 obtain ⟨x, hx, e⟩ := Option.map_eq_some_iff.mp h
 exact Option.map_eq_some_iff.mpr ⟨x, aB_.mono _ _ _ _ _ _ k x hx, e⟩
theorem cV_.mono (l : List (S42)) (a : Int) (k : Nat) : LeO (cV_.f k l a) (cV_.f (k + 1) l a) := by
 intro r h
 obtain ⟨x, hx, e⟩ := Option.map_eq_some_iff.mp h
 exact Option.map_eq_some_iff.mpr ⟨x, aB_.mono _ _ _ _ _ _ k x hx, e⟩
theorem hw_ {k : Nat} {l : List (S42)} {a n : Int} {o : List Int} (h1 : cV_.f k l a = some n) (h2 : cQ_.f k l a = some o) : aB_.f k l [0] 0 a [] (-1) = some (o, n) := by
 obtain ⟨x, hx, e⟩ := Option.map_eq_some_iff.mp h1
 obtain ⟨y, hy, e2⟩ := Option.map_eq_some_iff.mp h2
 rw [hx] at hy
 obtain rfl := Option.some.inj hy
 rw [hx, ← e, ← e2]
mutual
def az_.j0 : Nat → List (S42) → Int → Bool → Option ((List (S42)) × Int × Bool)
 | 0, _, _, _ => none
 | k + 1, x0, x1, x23 => if x23 = true then (some (([] : List (S42)), 0, false)) else (if (x0.length : Int) = 0 then (some (([] : List (S42)), 0, true)) else ((cV_.f k x0 x1).bind fun pP => ((cQ_.f k x0 x1).bind fun cm => (az_.l0 k x0 pP (([] : List (S42))) cm (cm.length : Int) 0))))
def az_.l0 : Nat → List (S42) → Int → List (S42) → List Int → Int → Int → Option ((List (S42)) × Int × Bool)
 | 0, _, _, _, _, _, _ => none
 | k + 1, x0, x7, x8, x38, x39, x40 => if x40 < x39 then (if 0 ≤ x40 then (if x40 < (x38.length : Int) then (if 0 ≤ (rd x38 x40) then (if (rd x38 x40) < (x0.length : Int) then (if x8.length < 8796093022208 then (az_.l0 k x0 x7 (x8 ++ [(⟨(ac_ x0 (rd x38 x40)).f0, (ac_ x0 (rd x38 x40)).f1⟩ : S42)]) x38 x39 (wrap64 (x40 + 1))) else (none)) else (none)) else (none)) else (none)) else (none)) else (some (x8, x7, true))
end
def az_.f (k : Nat) (l0 : List (S42)) (a1 : Int) : Option ((List (S42)) × Int × Bool) := (ap_.f k l0).bind fun zR => (if zR = true then (if (l0.length : Int) > 7 then (az_.j0 k l0 a1 true) else ((co_.f a1).bind fun sf => (az_.j0 k l0 a1 (!sf)))) else (az_.j0 k l0 a1 true))
theorem az_.mono_l : ∀ k, (∀ y0 y1 y2, LeO (az_.j0 k y0 y1 y2) (az_.j0 (k + 1) y0 y1 y2)) ∧ (∀ y0 y1 y2 y3 y4 y5, LeO (az_.l0 k y0 y1 y2 y3 y4 y5) (az_.l0 (k + 1) y0 y1 y2 y3 y4 y5))
 | 0 => ⟨fun _ _ _ r h => by simp [az_.j0] at h, fun _ _ _ _ _ _ r h => by simp [az_.l0] at h⟩
 | k + 1 => by
  obtain ⟨ih0, ih1⟩ := az_.mono_l k
  refine ⟨?_, ?_⟩
  ·intro y0 y1 y2
   unfold az_.j0
   exact hx_
  intro y0 y1 y2 y3 y4 y5
  unfold az_.l0
  exact hx_
theorem az_.mono : ∀ a0 a1 k, LeO (az_.f k a0 a1) (az_.f (k + 1) a0 a1) := by
 intro a0 a1 k
 obtain ⟨ih0, ih1⟩ := az_.mono_l k
 unfold az_.f
 exact hx_
set_option maxHeartbeats 8000000 in
set_option maxRecDepth 100000 in
theorem az_.calls (k : Nat) (A0 : Option Addr) (c0 : Nat) (l0 : List (S42)) (a1 : Int) (r1 : List (S42)) (r2 : Int) (r3 : Bool) (w : World) (hr0 : Kd.C k42 w A0 l0.length l0) (hc0 : l0.length ≤ c0) (h : az_.f k l0 a1 = some (r1, r2, r3)) :
  Calls Tryz.prog 15 #[.slice A0 l0.length c0, .int .i64 a1] w fun e w' => ∃ v0_ : Value, e = .returned (.tuple #[v0_, .int .i64 r2, .bool r3]) ∧ Kd.R k42 42 w' w.heap.size (fun _ => True) v0_ r1 ∧ Below w.heap.size w w' := by
 have hu42 := Tryz.underlying42
 have HR0 := aa_.mk hr0
 have HC0 := aa_.mk hc0
 clear hr0 hc0
 have HB := aa_.mk (Below.refl w.heap.size w)
 have H := h; unfold az_.f at H
 clear h
 have HC3 := aa_.mk H
 clear H
 go_enter Tryz.func15, Tryz.ntmps15
 go_upto_region 1 with (fail)
 repeat (go_quiet (fail); go_upto_region 1 with (fail))
 go_cut [23] (fun Kt wc => ∃ (kq : Nat) (bE : Bool), Kt = .bool bE ∧ aa_ (az_.j0 kq l0 a1 bE = some (r1, r2, r3)) ∧ aa_ (kq ≤ k) ∧ aa_ (Below w.heap.size w wc))
 case first =>
  have H := HC3.out
  clear HC3
  replace H := bd_ H; obtain ⟨zR, A4, H⟩ := H
  replace H := it_ H; obtain ⟨rfl, H⟩ | ⟨rfl, H⟩ := H
  ·replace H := iw_ H; obtain ⟨c6, H⟩ | ⟨c6, H⟩ := H
   ·have cC : decide (7 < (l0.length : Int)) = true := decide_eq_true c6
    have fR : decide (7 < l0.length) = true := decide_eq_true (by omega)
    clear c6
    (first | rw [cC] | (simp only [bA_, ch_]; rw [cC]) | skip)
    have H' := aa_.mk H
    clear H
    go_wp2_with ((go_at_call 13; (with_reducible refine (ap_.calls k _ _ l0 true _ ?_ ?_ A4.out).mono ?_); exact (Z10 HR0); exact HC0.out; rintro e w7 ⟨rfl, hb⟩; refine k1_ Ws_ ?_; clear HB; intro HB; (try clear hb)))
    repeat (go_quiet (fail); try go_wp2_with (fail))
    go_meet
    case rel => exact ⟨_, (true), (Z14), H', ⟨d7_⟩, ⟨Z2⟩⟩
   have cC : decide (7 < (l0.length : Int)) = false := decide_eq_false c6
   have fR : decide (7 < l0.length) = false := decide_eq_false (by omega)
   clear c6
   (first | rw [cC] | (simp only [bA_, ch_]; rw [cC]) | skip)
   replace H := bd_ H; obtain ⟨sf, A8, H⟩ := H
   have H' := aa_.mk H
   clear H
   go_wp2_with (first | (go_at_call 13; (with_reducible refine (ap_.calls k _ _ l0 true _ ?_ ?_ A4.out).mono ?_); exact (Z10 HR0); exact HC0.out; rintro e w9 ⟨rfl, hb⟩; refine k1_ Ws_ ?_; clear HB; intro HB; (try clear hb)) | (go_at_call 41; (with_reducible refine (co_.calls a1 sf _ A8.out).mono ?_); rintro e w' ⟨rfl, ⟨nd, rfl⟩⟩; (try first | exact ⟨rfl, _, dA_⟩ | exact ⟨rfl, _, dB_⟩)))
   repeat (go_quiet (fail); try go_wp2_with (fail))
   go_meet
   case rel => exact ⟨_, (!sf), (Z14), H', ⟨d7_⟩, ⟨Z2⟩⟩
  have H' := aa_.mk H
  clear H
  go_wp2_with ((go_at_call 13; (with_reducible refine (ap_.calls k _ _ l0 false _ ?_ ?_ A4.out).mono ?_); exact (Z10 HR0); exact HC0.out; rintro e jc ⟨rfl, hb⟩; refine k1_ Ws_ ?_; clear HB; intro HB; (try clear hb)))
  repeat (go_quiet (fail); try go_wp2_with (fail))
  go_meet
  case rel => exact ⟨_, (true), (Z14), H', ⟨d7_⟩, ⟨Z2⟩⟩
 case rest =>
  clear HC3
  obtain ⟨kq, bE, rfl, HA, zS, HB⟩ := hcut
  cases kq with
  | zero => exact absurd HA.out (by simp [az_.j0])
  | succ o8 =>
   have H := HA.out
   clear HA
   simp only [az_.j0] at H
   replace H := it_ H; obtain ⟨rfl, H⟩ | ⟨rfl, H⟩ := H
   ·obtain ⟨rfl, rfl, rfl⟩ := sq_ H; clear H
    go_wp2
    repeat (go_quiet (fail); try go_wp2)
    go_ret3
    exact ⟨_, Z9, Z17, Z2⟩
   replace H := ic_ H; obtain ⟨fm, o9, H⟩ | ⟨fm, o9, c12, H⟩ := H
   ·obtain ⟨rfl, rfl, rfl⟩ := sq_ H; clear H
    go_wp2
    repeat (go_quiet (fail); try go_wp2)
    go_ret3
    exact ⟨_, Z9, Z17, Z2⟩
   have wB : ¬ (l0 = []) := fun h_ => c12 (by rw [h_]; rfl)
   replace H := bd_ H; obtain ⟨pP, zw, H⟩ := H
   replace H := bd_ H; obtain ⟨cm, pD, H⟩ := H
   generalize e_ : ((([] : List (S42))) : List (S42)) = Ku at H
   have pa := aa_.mk e_.symm; clear e_
   have H' := aa_.mk H
   clear H
   obtain ⟨yL, hyL⟩ : ∃ y_ : List Int, y_ = ([0] : List Int) := ⟨_, rfl⟩
   have NyL := aa_.mk hyL
   clear hyL
   go_wp2_with (first | ((with_reducible refine au_ (N := 28) rfl ?_); refine bv_ 28 68 #[.slice none 0 0, .int .i64 (-1)] ?_; intro gS hgS jd hbox hb; refine k2_ (show aW_ w jd gS [] (-1) from ⟨none, 0, hbox, (oW_), Kd.qt_ _ _ _ _ _⟩) Ws_ ?_; clear HB; intro HI HB; clear hb hbox hgS) | ((with_reducible refine au_ (N := 30) rfl ?_); (try (refine es_ (by rfl) ?_; dsimp only)); refine lu_ (Kd.int .i64) 3 30 ([0] : List Int) [.int .i64 0] (aH_.one (show Kd.M (Kd.int .i64) _ _ _ 0 [.int .i64 0] from rfl) (aH_.none _ _)) ?_; intro xE lR ho16 hb hg_ hnew_; clear hg_ hnew_; rw [← NyL.out] at ho16; refine k3_ (Kd.pY_ ho16 (ao_ (Z2))) (aW_.below (oV_ HI) hb) Ws_ ?_; clear HI HB; intro HOL HI HB; clear hb ho16; obtain ⟨AoL, coL, eoL⟩ := Kd.pW_ HOL.out; subst eoL) | (go_at_call 42; (with_reducible refine (aB_.calls o8 A0 c0 l0 AoL coL yL 0 a1 gS [] (-1) cm pP w _ ?s1 ?s2 ?s3 ?s4 ?s5 ?s6 ?s7 (by rw [NyL.out]; exact hw_ zw.out pD.out)).mono ?_); (case s1 => exact HI.out); (case s2 => exact HB.out); (case s3 => exact Kd.qA_ (Kd.heap_iso _ (Kd.heap_pair (Kd.heap_int _) (Kd.heap_int _))) HR0.out HB.out (aW_.ge HI.out)); (case s4 => exact HC0.out); (case s5 => exact (Kd.pV_ HOL.out).2.2); (case s6 => exact (Kd.pV_ HOL.out).2.1); (case s7 => exact ci_ (aW_.own_ne HI.out HOL.out (by decide))); rintro e oD ⟨rfl, hi_, hb, hk_⟩; have n1_ := aa_.mk hb; obtain ⟨lV, gl, hbk_, hge_, hr_⟩ := hi_; have n0_ := aa_.mk hr_; have n2_ := aa_.mk hbk_; have n3_ := aa_.mk hge_; clear HI; clear HB; clear HOL; have gK := n0_; have HB := n1_; have BKS := n2_; have GES := n3_; clear n0_ n1_ n2_ n3_; clear hb hk_ hr_ hge_ hbk_) | ((with_reducible refine au_ (N := 34) rfl ?_); (try (refine es_ (by rfl) ?_; dsimp only)); refine lu_ k42 42 34 ([] : List (S42)) [] (aH_.none _ _) ?_; intro Hz oD ho18 hb hg_ hnew_; clear hg_ hnew_; (first | rw [← pa.out] at ho18 | (simp only [Int.reduceToNat] at ho18; rw [← pa.out] at ho18)); have n0_ := aa_.mk (Ya_ gK); have n1_ := aa_.mk (Kd.pY_ ho18 (ao_ (Z2))); have n3_ := aa_.mk (cj_ BKS.out hb); have n2_ := aa_.mk Ws_; clear gK; clear HB; have gK := n0_; have sh := n1_; have HB := n2_; clear BKS; have BKS := n3_; clear n0_ n1_ n2_ n3_; clear hb ho18; have hczS_0 := dG_ BKS.out; have hfzS_0 := a1_ BKS.out 0))
   repeat (go_quiet (fail); try go_wp2_with (fail))
   (try clear hczS_0); (try clear hfzS_0)
   go_loopg [8, 40] o8 (fun kq v8 v40 w' => ∃ (hU : List (S42)) (bR : Int), v40 = .int .i64 bR ∧ aa_ (az_.l0 kq l0 pP hU cm (cm.length : Int) bR = some (r1, r2, r3)) ∧ aa_ (kq ≤ o8) ∧ aa_ (Kd.R k42 42 w' w.heap.size (fun _ => True) v8 hU) ∧ aa_ (Kd.R (Kd.int .i64) 3 w' w.heap.size (fun _ => True) (.slice lV cm.length gl) cm) ∧ aa_ (Below w.heap.size w w') ∧ aa_ (w'.heap[gS]? = some (.cells #[.slice lV cm.length gl, .int .i64 pP] 68 (0, 0))))
   case atStart => exact ⟨(Ku), (0), (Z14), H', ⟨Nat.le_refl _⟩, ⟨Z1 sh⟩, ⟨Z1 gK⟩, ⟨Z2⟩, ⟨BKS.out⟩⟩
   case round =>
    clear H'
    (try clear c12); (try clear fm); (try clear o9); (try clear wB)
    obtain ⟨hU, bR, rfl, HA, HK2, af, hV, HB, BKS⟩ := hrel
    cases gk with
    | zero => exact absurd HA.out (by simp [az_.l0])
    | succ k2 =>
     have H := HA.out
     clear HA
     simp only [az_.l0] at H
     replace H := iv_ H; obtain ⟨dS, H⟩ | ⟨dS, H⟩ := H
     ·replace H := id_ H; obtain ⟨mo, H⟩ := H
      replace H := id_ H; obtain ⟨o0, H⟩ := H
      replace H := id_ H; obtain ⟨zf, H⟩ := H
      replace H := id_ H; obtain ⟨zg, H⟩ := H
      replace H := ia_ H; obtain ⟨rD, H⟩ := H
      generalize e_ : ((hU ++ [(⟨(ac_ l0 (rd cm bR)).f0, (ac_ l0 (rd cm bR)).f1⟩ : S42)]) : List (S42)) = Kv at H
      have zT := aa_.mk e_.symm; clear e_
      have H' := aa_.mk H
      clear H
      have HD : 0 ≤ (bR : Int) := of_decide_eq_true (Z8)
      have HE : bR < (cm.length : Int) := of_decide_eq_true (Z8)
      obtain ⟨ad196, e196, hx196_0⟩ := Kd.at_int (Kd.pV_ hV.out).2.2 bR HD HE
      cases e196
      replace HD := eq_true HD
      replace HE := eq_true HE
      have HF : 0 ≤ ((rd cm bR) : Int) := of_decide_eq_true (Z8)
      have HG : (rd cm bR) < (l0.length : Int) := of_decide_eq_true (Z8)
      obtain ⟨ad197, e197, pQ, pR⟩ := cZ_ HR0.out (rd cm bR) HF HG
      cases e197
      replace pQ := (HB.out.cell (World.block_lt_of_cell? w _ pQ)).trans pQ
      replace pR := (HB.out.cell (World.block_lt_of_cell? w _ pR)).trans pR
      replace HF := eq_true HF
      replace HG := eq_true HG
      go_wp2_with (((with_reducible refine bh_ (b := .append) (xs := #[.tmp 44, .tmp 49]) rfl ?_); (try (refine es_ (by rfl) ?_; dsimp only)); at_builtin; refine e4_ (w0 := w) w.heap.size (.tmp 44) (.tmp 49) u8 hU (⟨(ac_ l0 (rd cm bR)).f0, (ac_ l0 (rd cm bR)).f1⟩ : S42) [.int .i64 ((ac_ l0 (rd cm bR)).f0), .int .i64 ((ac_ l0 (rd cm bR)).f1)] (fun _ => True) rfl rfl ?aP ?aF ?aO ?aB ?aS ?aL ?_; (case aP => exact cy_ _ _ _ (⟨(ac_ l0 (rd cm bR)).f0, (ac_ l0 (rd cm bR)).f1⟩ : S42)); (case aB => exact Z2); (case aF => exact (fun _ _ => trivial)); (case aO => exact (Z1 af)); (case aS => exact (ao_ (Z2))); (case aL => exact Z91 rD); intro Kw GT ho hb hg hat; rw [← zT.out] at ho; have nb_ := aa_.mk (bg_ BKS.out hg (Kd.qb_ af.out BKS.out (by decide))); refine k3_ (Kd.qe_ (Z1 hV) (Kd.qd_ (Z1 af)) (by decide) hg) (hb) (ho) ?_; clear hV HB af; intro hV HB zU; clear BKS; have BKS := nb_; clear nb_; clear ho hb hg hat))
      repeat (go_quiet (fail); try go_wp2_with (fail))
      go_roundg k2
      case measure => have := zS.out; have := HK2.out; omega
      case rel => exact ⟨(Kv), (wrap64 (bR + 1)), (Z14), H', ⟨fc_ zS⟩, ⟨Z1 zU⟩, ⟨Z1 hV⟩, ⟨Z2⟩, ⟨BKS.out⟩⟩
     obtain ⟨rfl, rfl, rfl⟩ := sq_ H; clear H
     have hczS_1 := dK_ BKS.out
     have hfzS_1 := a1_ BKS.out 1
     go_wp2
     repeat (go_quiet (fail); try go_wp2)
     go_ret3
     exact ⟨_, Z9, Z1 af, Z2⟩
def dg_.f (a0 : Int) : Option (Bool) := (bK_.f a0 1 50).bind fun xF => (some xF)
set_option maxHeartbeats 8000000 in
set_option maxRecDepth 100000 in
theorem dg_.calls (a0 : Int) (r : Bool) (w : World) (h : dg_.f a0 = some r) :
  Calls Tryz.prog 43 #[.int .i64 a0] w fun e w' => e = .returned (.bool r) ∧ bH_ w w' := by
 have H := h; unfold dg_.f at H
 clear h
 replace H := bd_ H; obtain ⟨xF, A2, H⟩ := H
 replace H : (some xF) = some r := H
 obtain rfl := Option.some.inj H
 go_enter Tryz.func43, Tryz.ntmps43
 go_wp2_with (((with_reducible refine ae_ (f := 79) rfl ?_); refine gl_ 4 Tryz.func79 #[.int .i64 a0, .int .i64 1, .int .i64 50] ?_; (with_reducible refine (bK_.calls a0 1 50 xF _ A2.out).mono ?_); rintro e w' ⟨rfl, ⟨nd, rfl⟩⟩; refine ⟨_, rfl, ?_⟩))
 go_ret
 exact ⟨Z14, Z41⟩
def bj_.l0 : Nat → Int → List Int → Int → Int → Option (Bool)
 | 0, _, _, _, _ => none
 | k + 1, x1, x7, x8, x9 => if x9 < x8 then (if 0 ≤ x9 then (if x9 < (x7.length : Int) then (if (rd x7 x9) = x1 then (some true) else (bj_.l0 k x1 x7 x8 (wrap64 (x9 + 1)))) else (none)) else (none)) else (some false)
def bj_.f (k : Nat) (l0 : List Int) (a1 : Int) : Option (Bool) := bj_.l0 k a1 l0 (l0.length : Int) 0
theorem bj_.mono_l : ∀ k, (∀ y0 y1 y2 y3, LeO (bj_.l0 k y0 y1 y2 y3) (bj_.l0 (k + 1) y0 y1 y2 y3))
 | 0 => fun _ _ _ _ r h => by simp [bj_.l0] at h
 | k + 1 => by
  have ih0 := bj_.mono_l k
  ·intro y0 y1 y2 y3
   unfold bj_.l0
   exact hx_
theorem bj_.mono : ∀ a0 a1 k, LeO (bj_.f k a0 a1) (bj_.f (k + 1) a0 a1) := by
 intro a0 a1 k
 have ih0 := bj_.mono_l k
 unfold bj_.f
 exact hx_
set_option maxHeartbeats 8000000 in
set_option maxRecDepth 100000 in
theorem bj_.calls (k : Nat) (A0 : Option Addr) (c0 : Nat) (l0 : List Int) (a1 : Int) (r : Bool) (w : World) (hr0 : Kd.C (Kd.int .i64) w A0 l0.length l0) (hc0 : l0.length ≤ c0) (h : bj_.f k l0 a1 = some r) :
  Calls Tryz.prog 80 #[.slice A0 l0.length c0, .int .i64 a1] w fun e w' => e = .returned (.bool r) ∧ bH_ w w' := by
 have HR0 := aa_.mk hr0
 have HC0 := aa_.mk hc0
 clear hr0 hc0
 have H := h; unfold bj_.f at H
 clear h
 have H' := aa_.mk H
 clear H
 go_enter Tryz.func80, Tryz.ntmps80
 go_wp2
 go_loopg [9] k (fun kq v9 w' => ∃ (aK : Int), v9 = .int .i64 aK ∧ aa_ (bj_.l0 kq a1 l0 (l0.length : Int) aK = some r) ∧ aa_ (kq ≤ k) ∧ bH_ w w')
 case atStart => exact ⟨(0), (Z14), H', ⟨Nat.le_refl _⟩, Z41⟩
 case round =>
  clear H'
  obtain ⟨aK, rfl, HA, HK1, ⟨m1, rfl⟩⟩ := hrel
  cases gk with
  | zero => exact absurd HA.out (by simp [bj_.l0])
  | succ k1 =>
   have H := HA.out
   clear HA
   simp only [bj_.l0] at H
   replace H := iv_ H; obtain ⟨cU, H⟩ | ⟨cU, H⟩ := H
   ·replace H := id_ H; obtain ⟨da, H⟩ := H
    replace H := id_ H; obtain ⟨dp, H⟩ := H
    replace H := ic_ H; obtain ⟨cC, fR, H⟩ | ⟨cC, fR, c6, H⟩ := H
    ·obtain rfl := Option.some.inj H
     have vt : 0 ≤ (aK : Int) := of_decide_eq_true (Z8)
     have vu : aK < (l0.length : Int) := of_decide_eq_true (Z8)
     obtain ⟨ad611, e611, hx611_0⟩ := Kd.at_int HR0.out aK vt vu
     cases e611
     replace vt := eq_true vt
     replace vu := eq_true vu
     go_wp2
     go_ret
     exact ⟨Z14, Z41⟩
    have H' := aa_.mk H
    clear H
    have vt : 0 ≤ (aK : Int) := of_decide_eq_true (Z8)
    have vu : aK < (l0.length : Int) := of_decide_eq_true (Z8)
    obtain ⟨ad611, e611, hx611_0⟩ := Kd.at_int HR0.out aK vt vu
    cases e611
    replace vt := eq_true vt
    replace vu := eq_true vu
    go_wp2
    go_roundg k1
    case measure => have := HK1.out; omega
    case rel => exact ⟨(wrap64 (aK + 1)), (Z14), H', ⟨Z91 HK1⟩, Z41⟩
   obtain rfl := Option.some.inj H
   go_wp2
   go_ret
   exact ⟨Z14, Z41⟩
def dj_.f (l0 : List Int) : Option (List Int) := (some (([] : List Int) : List Int)).bind fun n6 => (if n6.length + l0.length < 17592186044416 then (some (n6 ++ l0)) else (none))
set_option maxHeartbeats 8000000 in
set_option maxRecDepth 100000 in
theorem dj_.calls (A0 : Option Addr) (c0 : Nat) (l0 : List Int) (r : List Int) (w : World) (hr0 : Kd.C (Kd.int .i64) w A0 l0.length l0) (hc0 : l0.length ≤ c0) (h : dj_.f l0 = some r) :
  Calls Tryz.prog 81 #[.slice A0 l0.length c0] w fun e w' => ∃ v0_ : Value, e = .returned (v0_) ∧ Kd.R (Kd.int .i64) 3 w' w.heap.size (fun _ => True) v0_ r ∧ Below w.heap.size w w' := by
 have HR0 := aa_.mk hr0
 have HC0 := aa_.mk hc0
 clear hr0 hc0
 have HB := aa_.mk (Below.refl w.heap.size w)
 have H := h; unfold dj_.f at H
 clear h
 replace H := lt_ H; obtain ⟨n6, DY, H⟩ := H
 replace H := ia_ H; obtain ⟨LMc2, H⟩ := H
 generalize e_ : ((n6 ++ l0) : List Int) = y615 at H
 have Ny615 := aa_.mk e_.symm; clear e_
 obtain rfl := Option.some.inj H
 go_enter Tryz.func81, Tryz.ntmps81
 go_wp2_with (first | ((with_reducible refine au_ (N := 3) rfl ?_); refine lu_ (Kd.int .i64) 3 3 ([] : List Int) [] (aH_.none _ _) ?_; intro v613 w3 ho4 hb hg_ hnew_; clear hg_ hnew_; (first | rw [← DY.out] at ho4 | (simp only [Int.reduceToNat] at ho4; rw [← DY.out] at ho4)); refine k2_ (Kd.pY_ ho4 (ao_ (Z2))) Ws_ ?_; clear HB; intro DZ HB; clear hb ho4) | ((with_reducible refine bh_ (b := .append) (xs := #[.tmp 3, .tmp 4]) rfl ?_); at_builtin; refine pC_ (w0 := w) w.heap.size (.tmp 3) (.tmp 4) v613 n6 l0 (fun _ => True) rfl rfl ?aO ?aR ?aF ?aB ?aS ?aL ?_; (case aR => exact Z10 HR0); (case aB => exact Z2); (case aF => exact (fun _ _ => trivial)); (case aO => exact (Z1 DZ)); (case aS => exact (ao_ (Z2))); (case aL => exact Z91 LMc2); intro v616 w5 ho hb hg hat; rw [← Ny615.out] at ho; refine k2_ (hb) (ho) ?_; clear HB DZ; intro HB HO617; clear ho hb hg hat))
 go_ret
 exact ⟨_, Z9, Z1 HO617, Z2⟩
def dM_.f (a0 : Int) (a1 : Int) : Option (Int) := if a0 > a1 then (some a0) else (some a1)
set_option maxHeartbeats 8000000 in
set_option maxRecDepth 100000 in
theorem dM_.calls (a0 : Int) (a1 : Int) (r : Int) (w : World) (h : dM_.f a0 a1 = some r) :
  Calls Tryz.prog 112 #[.int .i64 a0, .int .i64 a1] w fun e w' => e = .returned (.int .i64 r) ∧ bH_ w w' := by
 have H := h; unfold dM_.f at H
 clear h
 replace H := iw_ H; obtain ⟨c3, H⟩ | ⟨c3, H⟩ := H
 ·have cU : decide (a1 < a0) = true := decide_eq_true c3
  clear c3
  obtain rfl := Option.some.inj H
  go_enter Tryz.func112, Tryz.ntmps112
  go_wp2
  go_ret
  exact ⟨Z14, Z41⟩
 have cU : decide (a1 < a0) = false := decide_eq_false c3
 clear c3
 obtain rfl := Option.some.inj H
 go_enter Tryz.func112, Tryz.ntmps112
 go_wp2
 go_ret
 exact ⟨Z14, Z41⟩
def c5_.f (a0 : Int) : Option (Int) := (dM_.f a0 (wrap64 (-a0))).bind fun xG => (some xG)
set_option maxHeartbeats 8000000 in
set_option maxRecDepth 100000 in
theorem c5_.calls (a0 : Int) (r : Int) (w : World) (h : c5_.f a0 = some r) :
  Calls Tryz.prog 105 #[.int .i64 a0] w fun e w' => e = .returned (.int .i64 r) ∧ bH_ w w' := by
 have H := h; unfold c5_.f at H
 clear h
 replace H := bd_ H; obtain ⟨xG, A2, H⟩ := H
 replace H : (some xG) = some r := H
 obtain rfl := Option.some.inj H
 go_enter Tryz.func105, Tryz.ntmps105
 go_wp2_with (((with_reducible refine ae_ (f := 112) rfl ?_); refine gl_ 6 Tryz.func112 #[.int .i64 a0, .int .i64 (wrap64 (-a0))] ?_; (with_reducible refine (dM_.calls a0 (wrap64 (-a0)) xG _ A2.out).mono ?_); rintro e w' ⟨rfl, ⟨nd, rfl⟩⟩; refine ⟨_, rfl, ?_⟩))
 go_ret
 exact ⟨Z14, Z41⟩
def dC_.f (a0_0 : Int) (a0_1 : Int) (a1_0 : Int) (a1_1 : Int) (a2 : Int) : Option (Int) := (c5_.f (wrap64 (a0_1 - a1_1))).bind fun vv => ((c5_.f (wrap64 (a0_0 - a1_0))).bind fun vw => (some (wrap64 (vv + (wrap64 (a2 * vw))))))
set_option maxHeartbeats 8000000 in
set_option maxRecDepth 100000 in
theorem dC_.calls (a0_0 : Int) (a0_1 : Int) (a1_0 : Int) (a1_1 : Int) (a2 : Int) (r : Int) (w : World) (h : dC_.f a0_0 a0_1 a1_0 a1_1 a2 = some r) :
  Calls Tryz.prog 82 #[.agg #[.int .i64 a0_0, .int .i64 a0_1], .agg #[.int .i64 a1_0, .int .i64 a1_1], .int .i64 a2] w fun e w' => e = .returned (.int .i64 r) ∧ Below w.heap.size w w' := by
 have hu42 := Tryz.underlying42
 have HB := aa_.mk (Below.refl w.heap.size w)
 have H := h; unfold dC_.f at H
 clear h
 replace H := bd_ H; obtain ⟨vv, A4, H⟩ := H
 replace H := bd_ H; obtain ⟨vw, A5, H⟩ := H
 obtain rfl := Option.some.inj H
 go_enter Tryz.func82, Tryz.ntmps82
 go_wp2_with (first | ((with_reducible refine au_ (N := 3) rfl ?_); refine bv_ 3 42 #[.int .i64 a0_0, .int .i64 a0_1] ?_; intro er hg w6 hbox hb; refine k4_ Ws_ (hbox) (Wg_ w er) (Wg_ w er) ?_; clear HB; intro HB es D0 vZ; clear hb hbox hg) | ((with_reducible refine au_ (N := 4) rfl ?_); refine bv_ 4 42 #[.int .i64 a1_0, .int .i64 a1_1] ?_; intro fw hg w7 hbox hb; refine k7_ (Ye_ es) (aq_ (Z72) hb) (hbox) ((oX_ : w.heap.size ≤ fw)) ((oX_ : w.heap.size ≤ fw)) ((pv_ : er ≠ fw)) ((pD_ : fw ≠ er)) ?_; clear es HB; intro es HB sl D1 zV fV fW; clear hb hbox hg; have Kx := fV.out; have Ky := fW.out; obtain ⟨el, eN, eO, eP⟩ := cH_ (w := w7) es.out; obtain ⟨m7, pS, m8, pT⟩ := cH_ (w := w7) sl.out))
 repeat (go_quiet (first | (go_at_call 105; (with_reducible refine (c5_.calls (wrap64 (a0_1 - a1_1)) vv _ A4.out).mono ?_); rintro e w' ⟨rfl, ⟨nd, rfl⟩⟩; (try first | exact ⟨rfl, _, dA_⟩ | exact ⟨rfl, _, dB_⟩)) | (go_at_call 105; (with_reducible refine (c5_.calls (wrap64 (a0_0 - a1_0)) vw _ A5.out).mono ?_); rintro e w' ⟨rfl, ⟨nd, rfl⟩⟩; (try first | exact ⟨rfl, _, dA_⟩ | exact ⟨rfl, _, dB_⟩))); try go_wp2_with (fail))
 go_ret
 exact ⟨Z9, by repeat (first | (with_reducible first | exact HB.out | apply aC_ | apply aD_ | apply av_ | refine aK_ ?_ vZ.out | refine aK_ ?_ zV.out) | exact HB.out)⟩
theorem le_ {p : Prop} (h : p := by repeat' first | (with_reducible first | apply ih0 | apply ih0 | apply ih1 | apply ih1 | apply ih2 | apply ih2 | apply bj_.mono | apply bj_.mono | exact LeO.refl _ | exact LeO.none _ | refine LeO.ite ?_ ?_ | refine LeO.bind ?_ (fun _ => ?_)) | exact LeO.none _ | refine LeO.ite ?_ ?_ | refine LeO.bind ?_ (fun _ => ?_)) : p := h
def aV_ (A3 : Option Addr) (n3 c3 : Nat) (a4 : Int) (w0 W : World) (g : Nat) (f0 : List Int) (f1 : Int) : Prop := ∃ (A : Option Addr) (c : Nat), W.heap[g]? = some (.cells #[.slice A3 n3 c3, .int .i64 a4, .slice A f0.length c, .int .i64 f1] 72 (0, 0)) ∧ w0.heap.size ≤ g ∧ Kd.R (Kd.int .i64) 3 W w0.heap.size (fun _ => True) (.slice A f0.length c) f0
def cG_ (W : World) (g : Nat) (row : Option Nat) : Prop := ∀ (x y v z : Value), W.heap[g]? = some (.cells #[x, y, v, z] 72 (0, 0)) → ∀ b, v.ownBlock = some b → row ≠ some b
section
variable {A3 : Option Addr} {n3 c3 : Nat} {a4 : Int} {w0 W : World} {g : Nat} {f0 : List Int} {f1 : Int}
theorem aV_.move {W1 : World} (h : aV_ A3 n3 c3 a4 w0 W g f0 f1) (hb : W1.heap[g]? = W.heap[g]?) {q : Nat} (hk : ag_ W W1 q none) (hq : ∀ (x y v z : Value), W.heap[g]? = some (.cells #[x, y, v, z] 72 (0, 0)) → ∀ b, v.ownBlock = some b → b ≠ q) : aV_ A3 n3 c3 a4 w0 W1 g f0 f1 := by
 obtain ⟨A, c, h1, h2, h3⟩ := h
 exact ⟨A, c, hb.trans h1, h2, Kd.pX_ (Kd.p8_ (Kd.qE_ rfl h3) hk (fun k hk_ e => hq _ _ _ _ h1 k hk_.symm e)) (fun _ _ => trivial)⟩
theorem aV_.lt (h : aV_ A3 n3 c3 a4 w0 W g f0 f1) : g < W.heap.size := by
 obtain ⟨A, c, h1, _⟩ := h
 exact bV_ h1
theorem aV_.ge (h : aV_ A3 n3 c3 a4 w0 W g f0 f1) : w0.heap.size ≤ g := by
 obtain ⟨A, c, _, h2, _⟩ := h
 exact h2
theorem aV_.row (h : aV_ A3 n3 c3 a4 w0 W g f0 f1) {x y v z : Value} (h' : W.heap[g]? = some (.cells #[x, y, v, z] 72 (0, 0))) : Kd.R (Kd.int .i64) 3 W w0.heap.size (fun _ => True) v f0 := by
 obtain ⟨A, c, h1, h2, h3⟩ := h
 rw [h1] at h'
 injection h' with h'
 injection h' with h' _ _
 simp only [Array.mk.injEq, List.cons.injEq] at h'
 obtain ⟨_, _, rfl, _⟩ := h'
 exact h3
theorem aV_.self (h : aV_ A3 n3 c3 a4 w0 W g f0 f1) : ∀ (x y v z : Value), W.heap[g]? = some (.cells #[x, y, v, z] 72 (0, 0)) → ∀ b, v.ownBlock = some b → b ≠ g := by
 intro x y v z h' b e e2
 subst e2
 exact Kd.qb_ (h.row h') h' (by decide) e.symm
theorem aV_.below {W1 : World} (h : aV_ A3 n3 c3 a4 w0 W g f0 f1) (hw : Below W.heap.size W W1) : aV_ A3 n3 c3 a4 w0 W1 g f0 f1 := h.move (hw.block g h.lt) (ag_.of_below hw g none) h.self
theorem aV_.alloc (h : aV_ A3 n3 c3 a4 w0 W g f0 f1) (o : Obj) : aV_ A3 n3 c3 a4 w0 (W.alloc o) g f0 f1 := h.below (aC_ (Below.refl _ _) o)
theorem aV_.drewN (h : aV_ A3 n3 c3 a4 w0 W g f0 f1) (m : Nat) : aV_ A3 n3 c3 a4 w0 (W.drewN m) g f0 f1 := h.move rfl (c4_ (ag_.refl _ g none) m) h.self
theorem aV_.drew (h : aV_ A3 n3 c3 a4 w0 W g f0 f1) : aV_ A3 n3 c3 a4 w0 W.drew g f0 f1 := h.move rfl (cb_ (ag_.refl _ g none)) h.self
theorem aV_.at_ {w' : World} {m : Nat} (hq : W.drewN m = w') (h : aV_ A3 n3 c3 a4 w0 W g f0 f1) : aV_ A3 n3 c3 a4 w0 w' g f0 f1 := by subst hq; exact aV_.drewN h m
theorem aV_.grown {W1 : World} {row : Option Nat} (h : aV_ A3 n3 c3 a4 w0 W g f0 f1) (hw : W.grownBy W1 row) (hne : some g ≠ row) (hf : cG_ W g row) : aV_ A3 n3 c3 a4 w0 W1 g f0 f1 := by
 have hb := hw.block g h.lt hne
 cases row with
 | none => exact h.move hb ⟨hw.size, fun i hi _ _ => hw.block i hi (by simp)⟩ h.self
 | some b => exact h.move hb (q := b) ⟨hw.size, fun i hi hq _ => hw.block i hi (by simpa using hq)⟩ (fun x y v z h1 k e e2 => hf x y v z h1 k e (congrArg some e2.symm))
theorem aV_.apart {α : Type} {d : Kd α} {e : Nat} {base : Nat} {ok : Nat → Prop} {v : Value} {xs : List α} (h : aV_ A3 n3 c3 a4 w0 W g f0 f1) (ho : d.R e W base ok v xs) (ht : ∀ q, q ∈ e :: d.E → q ≠ 72) : d.R e W base (fun k => ok k ∧ k ≠ g) v xs := by
 obtain ⟨A, c, hb, _⟩ := h
 exact Kd.qf_ ho hb ht
theorem aV_.own_ne {α : Type} {d : Kd α} {e : Nat} {base : Nat} {ok : Nat → Prop} {v : Value} {xs : List α} (h : aV_ A3 n3 c3 a4 w0 W g f0 f1) (ho : d.R e W base ok v xs) (ht : e ≠ 72) : some g ≠ v.ownBlock := by
 obtain ⟨A, c, hb, _⟩ := h
 exact Kd.qb_ ho hb ht
theorem aV_.farN {W1 : World} {α : Type} {d : Kd α} {e : Nat} {ok : Nat → Prop} {v : Value} {xs : List α} (h : aV_ A3 n3 c3 a4 w0 W g f0 f1) (ho : d.R e W1 W.heap.size ok v xs) (hb : Below W.heap.size W W1) : cG_ W1 g v.ownBlock := by
 intro x y u z h1 b e e2
 rw [hb.block g h.lt] at h1
 have := Kd.qr_ (h.row h1) b e
 have := Kd.p9_ ho b e2
 omega
theorem aV_.farA {W1 : World} {b : Nat} (h : aV_ A3 n3 c3 a4 w0 W g f0 f1) (hg : b = W.heap.size) (hb : Below W.heap.size W W1) : cG_ W1 g (some b) := by
 intro x y v z h1 k e e2
 rw [hb.block g h.lt] at h1
 have := Kd.qr_ (h.row h1) k e
 have := Option.some.inj e2
 omega
theorem cG_.drewN {row : Option Nat} (h : cG_ W g row) (m : Nat) : cG_ (W.drewN m) g row := h
theorem cG_.drew {row : Option Nat} (h : cG_ W g row) : cG_ W.drew g row := h
theorem cG_.below {W1 : World} {row : Option Nat} (hlt : g < W.heap.size) (h : cG_ W g row) (hb : Below W.heap.size W W1) : cG_ W1 g row := by
 intro x y v z h1
 rw [hb.block g hlt] at h1
 exact h x y v z h1
theorem cG_.alloc {row : Option Nat} (hlt : g < W.heap.size) (h : cG_ W g row) (o : Obj) : cG_ (W.alloc o) g row := cG_.below hlt h (aC_ (Below.refl _ _) o)
theorem cG_.far {row : Option Nat} {p : Addr} (hne : g ≠ p.block) (h : cG_ W g row) (u : Value) : cG_ (W.setCell p u) g row := by
 intro x y v z h1
 rw [Below.heap_setCell W p u g hne] at h1
 exact h x y v z h1
theorem aV_.far {p : Addr} (h : aV_ A3 n3 c3 a4 w0 W g f0 f1) (hne : g ≠ p.block) (hf : cG_ W g (some p.block)) (u : Value) : aV_ A3 n3 c3 a4 w0 (W.setCell p u) g f0 f1 :=
 h.move (Below.heap_setCell W p u g hne) (q := p.block) ⟨by simp [World.setCell], fun i _ hq _ => Below.heap_setCell W p u i hq⟩ (fun x y v z h1 k e e2 => hf x y v z h1 k e (congrArg some e2.symm))
theorem fq_ {x y v z : Value} (h : W.heap[g]? = some (.cells #[x, y, v, z] 72 (0, 0))) : W.cell? ⟨g, 2, none⟩ = some v := (aE_ h 2).trans rfl
theorem fw_ {x y v z : Value} (h : W.heap[g]? = some (.cells #[x, y, v, z] 72 (0, 0))) : W.cell? ⟨g, 3, none⟩ = some z := (aE_ h 3).trans rfl
theorem aV_.store {base : Nat} {ok : Nat → Prop} {A1 : Option Addr} {c1 : Nat} {l1 : List Int} (h : aV_ A3 n3 c3 a4 w0 W g f0 f1) (ho : Kd.R (Kd.int .i64) 3 W base ok (.slice A1 l1.length c1) l1) (hle : w0.heap.size ≤ base) (x : Int) : aV_ A3 n3 c3 a4 w0 ((W.setCell ⟨g, 2, none⟩ (.slice A1 l1.length c1)).setCell ⟨g, 3, none⟩ (.int .i64 x)) g l1 x := by
 have hr := Kd.pX_ (Kd.pY_ (h.apart ho (by decide)) hle) (ok' := fun k => k ≠ g) (fun _ hk => hk.2)
 obtain ⟨A0, c0, h1, h2, _⟩ := h
 exact ⟨A1, c1, bb_ (bb_ h1 2 _ rfl) 3 _ rfl, h2, Kd.pX_ (Kd.p8_ hr (ag_.set_ (ag_.set_ (ag_.refl _ g none) 2 _) 3 _) (fun _ hk => hk)) (fun _ _ => trivial)⟩
theorem eX_ {x y z u : Value} (h : W.heap[g]? = some (.cells #[x, y, z, u] 72 (0, 0))) : W.cell? ⟨g, 0, none⟩ = some x := (aE_ h 0).trans rfl
theorem fr_ {x y z u : Value} (h : W.heap[g]? = some (.cells #[x, y, z, u] 72 (0, 0))) : W.cell? ⟨g, 1, none⟩ = some y := (aE_ h 1).trans rfl
theorem aV_.cellL (h : aV_ A3 n3 c3 a4 w0 W g f0 f1) : W.cell? ⟨g, 0, none⟩ = some (.slice A3 n3 c3) := by
 obtain ⟨A, c, h1, _⟩ := h
 exact eX_ h1
theorem aV_.cellA (h : aV_ A3 n3 c3 a4 w0 W g f0 f1) : W.cell? ⟨g, 1, none⟩ = some (.int .i64 a4) := by
 obtain ⟨A, c, h1, _⟩ := h
 exact fr_ h1
end
def dI_.f (l : List Int) (x : Int) : Option (List Int) := if l.length < 17592186044416 then some (l ++ [x]) else none
theorem dI_.eqs {l t u : List Int} {x : Int} (h : dj_.f l = some t) (g : dI_.f l x = some u) : t = l ∧ t ++ [x] = u ∧ t.length < 17592186044416 := by
 unfold dj_.f at h
 simp only [Option.bind_some, List.nil_append] at h
 unfold dI_.f at g
 split at g
 ·split at h
  ·obtain rfl := Option.some.inj h
   exact ⟨rfl, Option.some.inj g, by assumption⟩
  cases h
 cases g
mutual
def al_.j0 : Nat → List Int → Int → List (S42) → Int → Bool → List Int → Int → Option (List Int × Int)
 | 0, _, _, _, _, _, _, _ => none
 | k + 1, x1, x2, x3, x4, x21, bC, bX => if x21 = true then (some (bC, bX)) else (if (x1.length : Int) = (x3.length : Int) then (some (x1, x2)) else (al_.l0 k x1 x2 x3 x4 (x3.length : Int) 0 bC bX))
def al_.l0 : Nat → List Int → Int → List (S42) → Int → Int → Int → List Int → Int → Option (List Int × Int)
 | 0, _, _, _, _, _, _, _, _ => none
 | k + 1, x1, x2, x3, x4, x42, x43, bC, bX => if x43 < x42 then ((bj_.f k x1 x43).bind fun oK => (if oK = true then (al_.l0 k x1 x2 x3 x4 x42 (wrap64 (x43 + 1)) bC bX) else (if 0 ≤ (wrap64 ((x1.length : Int) - 1)) then (if (wrap64 ((x1.length : Int) - 1)) < (x1.length : Int) then (if 0 ≤ (rd x1 (wrap64 ((x1.length : Int) - 1))) then (if (rd x1 (wrap64 ((x1.length : Int) - 1))) < (x3.length : Int) then ((dj_.f x1).bind fun vx => ((dI_.f x1 x43).bind fun n7 => (if 0 ≤ x43 then (if x43 < (x3.length : Int) then ((dC_.f ((ac_ x3 (rd x1 (wrap64 ((x1.length : Int) - 1)))).f0) ((ac_ x3 (rd x1 (wrap64 ((x1.length : Int) - 1)))).f1) ((ac_ x3 x43).f0) ((ac_ x3 x43).f1) x4).bind fun iU => ((al_.f k bC bX n7 (wrap64 (x2 + iU)) x3 x4).bind fun my => (al_.l0 k x1 x2 x3 x4 x42 (wrap64 (x43 + 1)) my.1 my.2))) else (none)) else (none)))) else (none)) else (none)) else (none)) else (none)))) else (some (bC, bX))
def al_.f : Nat → List Int → Int → List Int → Int → List (S42) → Int → Option (List Int × Int)
 | 0, _, _, _, _, _, _ => none
 | k + 1, s0_0, s0_1, l1, a2, l3, a4 => if (s0_0.length : Int) > 0 then (al_.j0 k l1 a2 l3 a4 (decide (a2 ≥ s0_1)) s0_0 s0_1) else (al_.j0 k l1 a2 l3 a4 false s0_0 s0_1)
end
theorem al_.mono_l : ∀ k, (∀ y0 y1 y2 y3 y4 y5, LeO (al_.f k y0 y1 y2 y3 y4 y5) (al_.f (k + 1) y0 y1 y2 y3 y4 y5)) ∧ (∀ y0 y1 y2 y3 y4 y5 y6, LeO (al_.j0 k y0 y1 y2 y3 y4 y5 y6) (al_.j0 (k + 1) y0 y1 y2 y3 y4 y5 y6)) ∧ (∀ y0 y1 y2 y3 y4 y5 y6 y7, LeO (al_.l0 k y0 y1 y2 y3 y4 y5 y6 y7) (al_.l0 (k + 1) y0 y1 y2 y3 y4 y5 y6 y7))
 | 0 => ⟨fun _ _ _ _ _ _ r h => by simp [al_.f] at h, fun _ _ _ _ _ _ _ r h => by simp [al_.j0] at h, fun _ _ _ _ _ _ _ _ r h => by simp [al_.l0] at h⟩
 | k + 1 => by
  obtain ⟨ih0, ih1, ih2⟩ := al_.mono_l k
  refine ⟨?_, ?_, ?_⟩
  ·intro y0 y1 y2 y3 y4 y5
   unfold al_.f
   exact le_
  ·intro y0 y1 y2 y3 y4 y5 y6
   unfold al_.j0
   exact le_
  intro y0 y1 y2 y3 y4 y5 y6 y7
  unfold al_.l0
  exact le_
theorem al_.mono : ∀ a0 a1 a2 a3 a4 a5 k, LeO (al_.f k a0 a1 a2 a3 a4 a5) (al_.f (k + 1) a0 a1 a2 a3 a4 a5) := by
 intro a0 a1 a2 a3 a4 a5 k
 obtain ⟨ih0, ih1, ih2⟩ := al_.mono_l k
 exact ih0 a0 a1 a2 a3 a4 a5
def al_.T8 : Bool × List (List Nat × List Nat) := (true, [([], []), ([0], [0]), ([1], [1]), ([2], [2]), ([], []), ([], []), ([5], [5]), ([6], [6]), ([4, 7], [4, 7]), ([8], [8]), ([3, 9], [3, 9]), ([10], [10]), ([], []), ([12, 11, 0, 1, 2, 3, 4, 5, 6, 7, 8, 9, 10, 11, 12], [11, 12])])
def al_.B8 : List Nat := [0, 1, 3, 7, 0, 0, 32, 96, 240, 496, 1023, 2047, 0, 8191]
theorem al_.tab8 : bI_ .any (dd_ Tryz.f44 8) = al_.T8 := by kernel_rfl
theorem al_.bits8 : bQ_ al_.T8.2 al_.B8 = true := by kernel_rfl
def al_.T9 : Bool × List (List Nat × List Nat) := (true, [([], []), ([], []), ([1], [1]), ([], []), ([3], [3]), ([2, 4, 2], [2, 4]), ([], []), ([], []), ([], []), ([8], [8]), ([9], [9]), ([10], [10]), ([], []), ([11, 12], [11, 12]), ([13], [13]), ([], []), ([15], [15]), ([16], [16]), ([17], [17]), ([7, 14, 18, 5], [7, 14, 18]), ([6, 19], [6, 19]), ([0, 5, 20, 19], [0, 5, 20])])
def al_.B9 : List Nat := [0, 0, 2, 0, 8, 30, 0, 0, 0, 256, 768, 1792, 0, 7936, 16128, 0, 32768, 98304, 229376, 524222, 1048574, 2097151]
theorem al_.tab9 : bI_ .any (dd_ Tryz.f44 9) = al_.T9 := by kernel_rfl
theorem al_.bits9 : bQ_ al_.T9.2 al_.B9 = true := by kernel_rfl
set_option maxHeartbeats 8000000 in
set_option maxRecDepth 100000 in
theorem al_.calls (k : Nat) : ∀ (g : Nat) (s0_0 : List Int) (s0_1 : Int) (A1 : Option Addr) (c1 : Nat) (l1 : List Int) (a2 : Int) (A3 : Option Addr) (c3 : Nat) (l3 : List (S42)) (a4 : Int) (r1 : List Int) (r2 : Int) (w0 w : World) (hI : aV_ A3 l3.length c3 a4 w0 w g s0_0 s0_1) (hB : Below w0.heap.size w0 w) (hr1 : Kd.C (Kd.int .i64) w A1 l1.length l1) (hc1 : l1.length ≤ c1) (hf1 : ∀ ad, A1 = some ad → 0 < l1.length → ad.block ≠ g) (hr3 : ∀ W_, ag_ w W_ g none → Kd.C k42 W_ A3 l3.length l3) (hc3 : l3.length ≤ c3) (ho1 : Kd.R (Kd.int .i64) 3 w w0.heap.size (fun _ => True) (.slice A1 l1.length c1) l1) (h : al_.f k s0_0 s0_1 l1 a2 l3 a4 = some (r1, r2)),
  Calls Tryz.prog 44 #[.pointer (some ⟨g, 0, none⟩), .slice A1 l1.length c1, .int .i64 a2] w fun e w' => e = .returned (.tuple #[]) ∧ aV_ A3 l3.length c3 a4 w0 w' g r1 r2 ∧ Below w0.heap.size w0 w' ∧ ag_ w w' g none := by
 induction k using Nat.strongRecOn with
 | _ k ih =>
 intro g s0_0 s0_1 A1 c1 l1 a2 A3 c3 l3 a4 r1 r2 w0 w hI hB hr1 hc1 hf1 hr3 hc3 ho1 h
 cases k with
 | zero => exact absurd h (by simp [al_.f])
 | succ k =>
 simp only [al_.f] at h
 have hu42 := Tryz.underlying42
 have HR1 := aa_.mk hr1
 have HC1 := aa_.mk hc1
 clear hr1 hc1
 have HR3 := aa_.mk hr3
 have HC3 := aa_.mk hc3
 clear hr3 hc3
 have HI0 := aa_.mk hI
 have HK := aa_.mk (ag_.refl w g none)
 have HL := aa_.mk hB.size
 have HOW := aa_.mk (aV_.apart hI ho1 (by decide))
 clear ho1
 clear hI
 have HW0 := aa_.mk hB.size
 have HB := aa_.mk hB
 clear hB
 have H : (if (s0_0.length : Int) > 0 then (al_.j0 k l1 a2 l3 a4 (decide (a2 ≥ s0_1)) s0_0 s0_1) else (al_.j0 k l1 a2 l3 a4 false s0_0 s0_1)) = some (r1, r2) := h
 clear h
 have HC6 := aa_.mk H
 clear H
 go_enter Tryz.func44, Tryz.ntmps44
 go_upto_region 0 with (fail)
 go_cut [21] (fun GS wc => ∃ (kq : Nat) (wC : Bool), GS = .bool wC ∧ aa_ (al_.j0 kq l1 a2 l3 a4 wC s0_0 s0_1 = some (r1, r2)) ∧ aa_ (kq ≤ k) ∧ aa_ (aV_ A3 l3.length c3 a4 w0 wc g s0_0 s0_1) ∧ aa_ (ag_ w wc g none) ∧ aa_ (Below w0.heap.size w0 wc))
 case first =>
  have H := HC6.out
  clear HC6
  replace H := iw_ H; obtain ⟨c7, H⟩ | ⟨c7, H⟩ := H
  ·have dJ : decide (0 < (s0_0.length : Int)) = true := decide_eq_true c7
   have Cs : decide (0 < s0_0.length) = true := decide_eq_true (by omega)
   have Kz : (0 < s0_0.length) = True := eq_true (by omega)
   clear c7
   (first | rw [dJ] | (simp only [bA_, ch_]; rw [dJ]) | skip)
   have H' := aa_.mk H
   clear H
   obtain ⟨Az_, cz_, HGz8, hgz8, _⟩ := HI0.out
   have fF := fq_ HGz8
   have fG := fw_ HGz8
   have jb := eX_ HGz8
   have hcz8_3 := fr_ HGz8
   have gj := a1_ HGz8 2
   have fH := a1_ HGz8 3
   clear HGz8 hgz8
   go_wp2
   go_meet
   case rel => exact ⟨_, (decide (a2 ≥ s0_1)), (Z14), H', ⟨d7_⟩, ⟨Z60⟩, ⟨Z6⟩, ⟨Z68⟩⟩
  have dJ : decide (0 < (s0_0.length : Int)) = false := decide_eq_false c7
  have Cs : decide (0 < s0_0.length) = false := decide_eq_false (by omega)
  have Kz : (0 < s0_0.length) = False := eq_false (by omega)
  clear c7
  (first | rw [dJ] | (simp only [bA_, ch_]; rw [dJ]) | skip)
  have H' := aa_.mk H
  clear H
  obtain ⟨Az_, cz_, HGz9, hgz9, _⟩ := HI0.out
  have el := fq_ HGz9
  have eN := fw_ HGz9
  have ph := eX_ HGz9
  have hcz9_3 := fr_ HGz9
  have eO := a1_ HGz9 2
  have eP := a1_ HGz9 3
  clear HGz9 hgz9
  go_wp2
  go_meet
  case rel => exact ⟨_, (false), (Z14), H', ⟨d7_⟩, ⟨Z60⟩, ⟨Z6⟩, ⟨Z68⟩⟩
 case rest =>
  clear HC6
  (try clear c1); (try clear c3)
  obtain ⟨kq, wC, rfl, HA, BJ, HI0, HK, HB⟩ := hcut
  cases kq with
  | zero => exact absurd HA.out (by simp [al_.j0])
  | succ Je =>
   have H := HA.out
   clear HA
   simp only [al_.j0] at H
   replace H := it_ H; obtain ⟨rfl, H⟩ | ⟨rfl, H⟩ := H
   ·obtain ⟨rfl, rfl⟩ := sp_ H; clear H
    go_wp2
    first | go_end0 | ((try simp only [Exit.inBlock, Exit.then]); refine bodyPost_ret (results_none rfl _ _ _) rfl ?_)
    exact ⟨Z9, Z60, Z68, Z6⟩
   replace H := iw_ H; obtain ⟨c11, H⟩ | ⟨c11, H⟩ := H
   ·have dG : ((l1.length : Int) == (l3.length : Int)) = true := beq_iff_eq.mpr c11
    have n8 : ((l1.length : Int) != (l3.length : Int)) = false := bne_eq_false_iff_eq.mpr c11
    have zW : (l1.length == l3.length) = true := by first | simpa using c11 | (simp at c11 ⊢; omega)
    clear c11
    obtain ⟨rfl, rfl⟩ := sp_ H; clear H
    obtain ⟨Az_, cz_, HGz12, hgz12, _⟩ := HI0.out
    have eC := fq_ HGz12
    have fh := fw_ HGz12
    have pi := eX_ HGz12
    have hcz12_3 := fr_ HGz12
    have eD := a1_ HGz12 2
    have fi := a1_ HGz12 3
    clear HGz12 hgz12
    go_wp2
    first | go_end0 | ((try simp only [Exit.inBlock, Exit.then]); refine bodyPost_ret (results_none rfl _ _ _) rfl ?_)
    exact ⟨Z9, aV_.store HI0.out (Kd.p8_ HOW.out HK.out (fun _ hk => hk.2)) (Nat.le_refl _) a2, Z68, Z6⟩
   have dG : ((l1.length : Int) == (l3.length : Int)) = false := beq_eq_false_iff_ne.mpr c11
   have n8 : ((l1.length : Int) != (l3.length : Int)) = true := bne_iff_ne.mpr c11
   have zW : (l1.length == l3.length) = false := by first | simpa using c11 | (simp at c11 ⊢; omega)
   have H' := aa_.mk H
   clear H
   obtain ⟨Az_, cz_, HGzA, hgzA, _⟩ := HI0.out
   have hczA_2 := eX_ HGzA
   clear HGzA hgzA
   go_wp2
   go_loopg [43] Je (fun kq v43 w' => ∃ (bq : Int) (dr : List Int) (ck : Int), v43 = .int .i64 bq ∧ aa_ (al_.l0 kq l1 a2 l3 a4 (l3.length : Int) bq dr ck = some (r1, r2)) ∧ aa_ (kq ≤ Je) ∧ aa_ (aV_ A3 l3.length c3 a4 w0 w' g dr ck) ∧ aa_ (ag_ w w' g none) ∧ aa_ (Below w0.heap.size w0 w'))
   case atStart => exact ⟨(0), (s0_0), (s0_1), (Z14), H', ⟨Nat.le_refl _⟩, ⟨Z60⟩, ⟨Z6⟩, ⟨Z68⟩⟩
   case round =>
    (try clear hczA_2)
    clear H'
    (try clear c11); (try clear dG); (try clear n8); (try clear zW)
    obtain ⟨bq, dr, ck, rfl, HA, HK2, HI0, HK, HB⟩ := hrel
    cases gk with
    | zero => exact absurd HA.out (by simp [al_.l0])
    | succ k2 =>
     have H := HA.out
     clear HA
     simp only [al_.l0] at H
     replace H := iv_ H; obtain ⟨ew, H⟩ | ⟨ew, H⟩ := H
     ·replace H := bd_ H; obtain ⟨oK, pD, H⟩ := H
      replace H := it_ H; obtain ⟨rfl, H⟩ | ⟨rfl, H⟩ := H
      ·have H' := aa_.mk H
       clear H
       go_wp2_with (((with_reducible refine ae_ (f := 80) rfl ?_); refine gl_ 48 Tryz.func80 #[.slice A1 l1.length c1, .int .i64 bq] ?_; (with_reducible refine (bj_.calls k2 _ _ l1 bq true _ ?_ ?_ pD.out).mono ?_); exact Kd.qu_ 0 HR1.out (Z6) hf1; exact HC1.out; rintro e w' ⟨rfl, ⟨nd, rfl⟩⟩; refine ⟨_, rfl, ?_⟩))
       go_roundg k2
       case measure => have := BJ.out; have := HK2.out; omega
       case rel => exact ⟨(wrap64 (bq + 1)), (dr), (ck), (Z14), H', ⟨fc_ BJ⟩, ⟨Z60⟩, ⟨Z6⟩, ⟨Z68⟩⟩
      obtain ⟨bP, hji16⟩ : ∃ j_ : Int, (wrap64 ((l1.length : Int) - 1)) = j_ := ⟨_, rfl⟩
      (first | rw [hji16] at H | simp only [hji16] at H)
      (try rw [hji16] at pD)
      have hji16w : (IntKind.i64.wrap ((l1.length : Int) - 1)) = bP := (bA_ _).trans hji16
      replace H := id_ H; obtain ⟨i2, H⟩ := H
      replace H := id_ H; obtain ⟨eQ, H⟩ := H
      replace H := id_ H; obtain ⟨mm, H⟩ := H
      replace H := id_ H; obtain ⟨dS, H⟩ := H
      replace H := bd_ H; obtain ⟨vx, gL, H⟩ := H
      generalize e_ : ((([bq] : List Int)) : List Int) = zX at H
      have wD := aa_.mk e_.symm; clear e_
      replace H := bd_ H; obtain ⟨n7, i7, H⟩ := H
      replace H := id_ H; obtain ⟨zf, H⟩ := H
      replace H := id_ H; obtain ⟨zg, H⟩ := H
      replace H := bd_ H; obtain ⟨iU, la, H⟩ := H
      replace H := bd_ H; obtain ⟨⟨HH, HJ⟩, A26, H⟩ := H
      (try dsimp only at H)
      have H' := aa_.mk H
      clear H
      try go_wp2_with (((with_reducible refine ae_ (f := 80) rfl ?_); refine gl_ 48 Tryz.func80 #[.slice A1 l1.length c1, .int .i64 bq] ?_; (with_reducible refine (bj_.calls k2 _ _ l1 bq false _ ?_ ?_ pD.out).mono ?_); exact Kd.qu_ 0 HR1.out (Z6) hf1; exact HC1.out; rintro e w' ⟨rfl, ⟨nd, rfl⟩⟩; refine ⟨_, rfl, ?_⟩; (try (rw [e8_ wr]; generalize hq_ : World.drewN wr _ = wr; have n0_ : aa_ (aV_ A3 l3.length c3 a4 w0 wr g dr ck) := ⟨by rw [← hq_]; exact Z60⟩; have n1_ : aa_ (ag_ w wr g none) := ⟨by rw [← hq_]; exact Z6⟩; have n2_ : aa_ (Below w0.heap.size w0 wr) := ⟨by rw [← hq_]; exact Z68⟩; clear HI0 HK HB hq_; have HI0 := n0_; have HK := n1_; have HB := n2_; clear n0_ n1_ n2_))))
      refine k3_ (aV_.drew HI0.out) (cb_ HK.out) (av_ HB.out) ?_
      clear HI0 HK HB
      intro HI0 HK HB
      have HM : 0 ≤ ((bP) : Int) := of_decide_eq_true (Z8)
      have HP : (bP) < (l1.length : Int) := of_decide_eq_true (Z8)
      obtain ⟨mz, e122, nj⟩ := Kd.at_int HR1.out (bP) HM HP
      have hw122_0 := nj
      cases e122
      have hne122_0 := (show ((mz.add ((bP)).toNat) : Addr).block ≠ g from by first | (rw [bo_]; exact hf1 mz rfl (by omega)) | (show (Addr.add _ _).block ≠ _; rw [bo_]; exact hf1 mz rfl (by omega)) | exact hf1 mz rfl (by omega))
      replace nj := cR_ HK.out nj (by first | (rw [bo_]; exact hf1 _ rfl (by omega)) | exact hf1 _ rfl (by omega) | exact hf1 mz rfl (by omega))
      replace HM := eq_true HM
      replace HP := eq_true HP
      have HQ : 0 ≤ ((rd l1 (bP)) : Int) := of_decide_eq_true (Z8)
      have HS : (rd l1 (bP)) < (l3.length : Int) := of_decide_eq_true (Z8)
      obtain ⟨cK, e123, pU, pV⟩ := cZ_ (Kd.qq_ HR3.out HK.out) (rd l1 (bP)) HQ HS
      have hw123_1 := pV
      have hw123_0 := pU
      cases e123
      have hne123_1 := (show (⟨(cK.add (((rd l1 (bP))).toNat * 2)).block, (cK.add (((rd l1 (bP))).toNat * 2)).off + 1, none⟩ : Addr).block ≠ g from Z52 HR3)
      have hlt123_1 := (Kd.foot_lt HR3.out (by omega) (by decide))
      have hne123_0 := (show ((cK.add (((rd l1 (bP))).toNat * 2)) : Addr).block ≠ g from Z52 HR3)
      have hlt123_0 := (Kd.foot_lt HR3.out (by omega) (by decide))
      replace HQ := eq_true HQ
      replace HS := eq_true HS
      refine b2_ (n := 14) (S := fun w' => w'.cell? (mz.add ((bP)).toNat) = some (.int .i64 (rd l1 (bP))) ∧ w'.cell? (cK.add (((rd l1 (bP))).toNat * 2)) = some (.int .i64 ((ac_ l3 (rd l1 (bP))).f0)) ∧ w'.cell? ⟨(cK.add (((rd l1 (bP))).toNat * 2)).block, (cK.add (((rd l1 (bP))).toNat * 2)).off + 1, none⟩ = some (.int .i64 ((ac_ l3 (rd l1 (bP))).f1)) ∧ w'.cell? ⟨g, 0, none⟩ = some (.slice (some cK) l3.length c3)) (ds := []) (M_ 0 14) (by kernel_rfl) rfl rfl ⟨(cR_ HK.out hw122_0 hne122_0), pU, pV, aV_.cellL HI0.out⟩ (fun hHeld => ?_); refine bz_ al_.tab8 al_.bits8 (fun HT_ HW_ => ?_)
      generalize wr.drew = w27 at HI0 HK HB nj pU pV hHeld ⊢
      refine pu_ 0 50 (M_ 1 13) ?_
      refine pu_ 1 51 (M_ 2 12) ?_
      refine pu_ 2 52 (M_ 3 11) ?_
      refine eF_ 3 53 (M_ 4 10) hHeld ?_
      refine pu_ 4 54 (M_ 5 9) ?_
      refine pu_ 5 55 (M_ 6 8) ?_
      refine pu_ 6 56 (M_ 7 7) ?_
      refine pu_ 7 57 (M_ 8 6) ?_
      refine pu_ 8 58 (M_ 9 5) ?_
      refine eF_ 9 59 (M_ 10 4) hHeld ?_
      refine pu_ 10 60 (M_ 11 3) ?_
      refine eF_ 11 61 (M_ 12 2) hHeld ?_
      refine on_ 12 (some 7) (M_ 13 1) (fun K hK => ?_)
      refine mw_ ?hg (N := 7) ?hd (cs := #[.int .i64 0, .int .i64 0]) (t := 42) ?hr ?_; (case hd => rfl); (case hg => rfl); (case hr => exact Z39)
      intro cy hg i3 hbox hb
      have HS1_ := (hb.cell (World.block_lt_of_cell? _ _ (hHeld.2.1))).trans (hHeld.2.1)
      have HS2_ := (hb.cell (World.block_lt_of_cell? _ _ (hHeld.2.2.1))).trans (hHeld.2.2.1)
      have nA_ := aa_.mk (aV_.farA HI0.out hg hb); have n0_ := aa_.mk (aV_.below (Z60) hb)
      have n1_ := aa_.mk Wl_
      have n2_ := aa_.mk (aq_ (Z68) hb)
      have n3_ := aa_.mk (hbox)
      have n4_ := aa_.mk ((Z88 : w.heap.size ≤ cy))
      have n5_ := aa_.mk ((Nat.le_trans HW0.out (Z88 : w.heap.size ≤ cy) : w0.heap.size ≤ cy))
      have n6_ := aa_.mk ((by rw [hg]; exact Nat.ne_of_lt (aV_.lt (show aV_ (some cK) l3.length c3 a4 w0 _ g dr ck from Z60)) : g ≠ cy))
      have n7_ := aa_.mk ((by rw [hg]; exact Nat.ne_of_gt (aV_.lt (show aV_ (some cK) l3.length c3 a4 w0 _ g dr ck from Z60)) : cy ≠ g))
      clear HI0
      clear HK
      clear HB
      have HI0 := n0_
      have HK := n1_
      have HB := n2_
      have bL := n3_
      have fO := n4_
      have GE124 := n5_
      have gi := n6_
      have NB124_0 := n7_; have NA := nA_
      clear n0_ n1_ n2_ n3_ n4_ n5_ n6_ n7_
      clear hb hbox hg
      refine hK.out _ _ ⟨(cR_ HK.out hw122_0 hne122_0), HS1_, HS2_, aV_.cellL HI0.out⟩ (fun hHeld => ?_)
      clear hK K
      refine nm_ 7 ?_
      refine on_ 13 (none) (M_ 14 0) (fun K hK => ?_)
      have hs29 : i3.cell? ⟨cy, 0, none⟩ = some (.int .i64 0) := (aE_ bL.out 0).trans rfl
      have hfs29 := a1_ bL.out 0
      have hs30 : i3.cell? ⟨cy, 1, none⟩ = some (.int .i64 0) := (aE_ bL.out 1).trans rfl
      have hfs30 := a1_ bL.out 1
      refine iU_ (w1 := ?_) (by rfl) rfl ?_ ?_
      rotate_left
      ·go_simp
       rfl
      refine hK.out _ _ ⟨((bN_ (p := ⟨cy, _, none⟩) (Z94) _).trans (((bN_ (p := ⟨cy, _, none⟩) (Z94) _).trans (hHeld.1)))), ((bN_ (p := ⟨cy, _, none⟩) (os_) _).trans (((bN_ (p := ⟨cy, _, none⟩) (os_) _).trans (hHeld.2.1)))), ((bN_ (p := ⟨cy, _, none⟩) (o8_) _).trans (((bN_ (p := ⟨cy, _, none⟩) (o8_) _).trans hHeld.2.2.1))), aV_.cellL (aV_.far (aV_.far HI0.out gi.out NA.out _) gi.out (cG_.far gi.out NA.out _) _)⟩ (fun hHeld => ?_)
      clear hK K
      refine cw_ (bS_ HT_.out (by kernel_rfl)) ?_
      try go_wp2
      have n0_ : aa_ (((i3.setCell ⟨cy, 0, none⟩ (.int .i64 ((ac_ l3 (rd l1 (bP))).f0))).setCell ⟨cy, 1, none⟩ (.int .i64 ((ac_ l3 (rd l1 (bP))).f1))).heap[cy]? = some (.cells #[.int .i64 ((ac_ l3 (rd l1 (bP))).f0), .int .i64 ((ac_ l3 (rd l1 (bP))).f1)] 42 (0, 0))) := ⟨by (with_reducible repeat (first | refine aG_ ?_ _ | refine ax_ ?_ | refine aF_ ?_ _)); refine bb_ (cs := #[.int .i64 ((ac_ l3 (rd l1 (bP))).f0), .int .i64 0]) ?_ 1 _ rfl; (with_reducible repeat (first | refine aG_ ?_ _ | refine ax_ ?_ | refine aF_ ?_ _)); refine bb_ (cs := #[.int .i64 0, .int .i64 0]) ?_ 0 _ rfl; (with_reducible repeat (first | refine aG_ ?_ _ | refine ax_ ?_ | refine aF_ ?_ _)); exact bL.out⟩
      have n1_ : aa_ (aV_ (some cK) l3.length c3 a4 w0 ((i3.setCell ⟨cy, 0, none⟩ (.int .i64 ((ac_ l3 (rd l1 (bP))).f0))).setCell ⟨cy, 1, none⟩ (.int .i64 ((ac_ l3 (rd l1 (bP))).f1))) g dr ck) := ⟨aV_.far (aV_.far HI0.out gi.out NA.out _) gi.out (cG_.far gi.out NA.out _) _⟩
      have n2_ : aa_ (ag_ w ((i3.setCell ⟨cy, 0, none⟩ (.int .i64 ((ac_ l3 (rd l1 (bP))).f0))).setCell ⟨cy, 1, none⟩ (.int .i64 ((ac_ l3 (rd l1 (bP))).f1))) g none) := ⟨Z40⟩
      have n3_ : aa_ (Below w0.heap.size w0 ((i3.setCell ⟨cy, 0, none⟩ (.int .i64 ((ac_ l3 (rd l1 (bP))).f0))).setCell ⟨cy, 1, none⟩ (.int .i64 ((ac_ l3 (rd l1 (bP))).f1)))) := ⟨Z49⟩
      (try clear bL)
      (try clear HI0)
      (try clear HK)
      (try clear HB)
      generalize ((i3.setCell ⟨cy, 0, none⟩ (.int .i64 ((ac_ l3 (rd l1 (bP))).f0))).setCell ⟨cy, 1, none⟩ (.int .i64 ((ac_ l3 (rd l1 (bP))).f1))) = Ns at n0_ n1_ n2_ n3_ ⊢
      have bL := n0_
      have HI0 := n1_
      have HK := n2_
      have HB := n3_
      clear n0_ n1_ n2_ n3_
      refine k4_ (ax_ bL.out) (aV_.drew HI0.out) (cb_ HK.out) (av_ HB.out) ?_
      clear bL HI0 HK HB
      intro bL HI0 HK HB
      have z2 : 0 ≤ (bq : Int) := of_decide_eq_true (Z8)
      have z3 : bq < (l3.length : Int) := of_decide_eq_true (Z8)
      obtain ⟨ad134, e134, wE, wF⟩ := cZ_ (Kd.qq_ HR3.out HK.out) bq z2 z3
      have hw134_1 := wF
      have hw134_0 := wE
      obtain rfl : cK = ad134 := (by injection e134)
      have hne134_1 := (show (⟨(cK.add ((bq).toNat * 2)).block, (cK.add ((bq).toNat * 2)).off + 1, none⟩ : Addr).block ≠ g from Z52 HR3)
      have hlt134_1 := (Kd.foot_lt HR3.out (by omega) (by decide))
      have hne134_0 := (show ((cK.add ((bq).toNat * 2)) : Addr).block ≠ g from Z52 HR3)
      have hlt134_0 := (Kd.foot_lt HR3.out (by omega) (by decide))
      replace z2 := eq_true z2
      replace z3 := eq_true z3
      refine b2_ (n := 22) (S := fun w' => True) (ds := []) (M_ 0 22) (by kernel_rfl) rfl rfl trivial (fun hHeld => ?_); refine bz_ al_.tab9 al_.bits9 (fun HT_ HW_ => ?_)
      generalize Ns.drew = wo at bL HI0 HK HB wE wF hHeld ⊢
      refine pu_ 0 62 (M_ 1 21) ?_
      refine pu_ 1 63 (M_ 2 20) ?_
      refine pu_ 3 65 (N_ 22 11) ?_
      refine pu_ 6 68 (N_ 22 75) ?_
      refine pu_ 8 70 (N_ 22 331) ?_
      refine pu_ 9 71 (N_ 22 843) ?_
      refine pu_ 10 72 (N_ 22 1867) ?_
      refine pu_ 12 74 (N_ 22 5963) ?_
      refine pu_ 15 77 (N_ 22 38731) ?_
      refine pu_ 16 78 (N_ 22 104267) ?_
      refine pu_ 17 79 (N_ 22 235339) ?_
      refine oI_ [2, 4, 5, 7, 11, 13, 14, 18, 19, 20, 21] (fun a0_ b a w' => ∃ (dD : Value) (dT : Value) (ea : Value), a = cC_ a0_ b [(2, 64, dD), (4, 66, dT), (5, 67, ea), (7, 69, .agg #[.int .i64 ((ac_ l3 (rd l1 (bP))).f0), .int .i64 ((ac_ l3 (rd l1 (bP))).f1)]), (11, 73, .slice (some cK) l3.length c3), (13, 75, .pointer (some (cK.add ((bq).toNat * 2)))), (14, 76, .agg #[.int .i64 ((ac_ l3 bq).f0), .int .i64 ((ac_ l3 bq).f1)]), (18, 80, .int .i64 a4), (19, 81, .int .i64 iU), (20, 82, .int .i64 (wrap64 (a2 + iU))), (21, 83, .tuple #[])] ∧ (w'.heap[cy]? = some (.cells #[.int .i64 ((ac_ l3 (rd l1 (bP))).f0), .int .i64 ((ac_ l3 (rd l1 (bP))).f1)] 42 (0, 0))) ∧ (b 21 = false → aV_ (some cK) l3.length c3 a4 w0 w' g dr ck) ∧ (ag_ w w' g none) ∧ (Below w0.heap.size w0 w') ∧ (b 2 = true → b 5 = false → Kd.R (Kd.int .i64) 3 w' w.heap.size (fun _ => True) dD vx ∧ cG_ w' g dD.ownBlock) ∧ (b 4 = true → b 5 = false → Kd.R (Kd.int .i64) 3 w' w.heap.size (fun _ => True) dT zX) ∧ (b 5 = true → Kd.R (Kd.int .i64) 3 w' w.heap.size (fun _ => True) ea n7) ∧ (b 21 = true → aV_ (some cK) l3.length c3 a4 w0 w' g HH HJ)) HT_.out HW_.out (by kernel_rfl) (by kernel_rfl) ?_ ?_ ?_
      ·exact ⟨.bool false, .bool false, .bool false, by simp only [cC_, Bool.false_eq_true, if_false], bL.out, fun _ => HI0.out, HK.out, HB.out, fun h_ _ => absurd h_ (by decide), fun h_ _ => absurd h_ (by decide), fun h_ => absurd h_ (by decide), fun h_ => absurd h_ (by decide)⟩
      ·skip
       clear bL HB HI0 HK
       refine cI_ ?_ ?_
       ·rintro b a w' ⟨dD, dT, ea, ha, Q_BK124, Q_HI0, Q_HK, Q_HB, Q_HO127, Q_HO130, Q_HO133, Q_HI0_e21⟩ hb_ hon hoff
        refine ⟨_, rfl, fun K hK => ?_⟩
        have e63 : a.tmps[63]? = some (.slice (some mz) l1.length c1) := by rw [ha]; exact (cJ_ rfl).trans rfl
        replace ha := aa_.mk ha
        have bL := aa_.mk Q_BK124
        have HI0 := aa_.mk (Q_HI0 (hoff 21 (by kernel_rfl)))
        have HK := aa_.mk Q_HK
        have HB := aa_.mk Q_HB
        refine cs_ Tryz.func81 (by kernel_rfl) rfl #[.slice (some mz) l1.length c1] (by rfl) rfl rfl (by first | (simp only [List.map_toArray, List.map_cons, List.map_nil, Act.eval, Array.getD_eq_getD_getElem?, Option.getD_some, e63]; done) | (simp only [List.map_toArray, List.map_cons, List.map_nil, Act.eval, Array.getD_eq_getD_getElem?, Option.getD_some, e63]; rfl)) ?_
        with_reducible refine (dj_.calls _ _ l1 vx _ ?side1 ?side2 gL.out).mono ?_
        (case side1 => exact Kd.qu_ 0 HR1.out (Z40) hf1)
        (case side2 => exact HC1.out)
        rintro e m9 ⟨dD, rfl, ho0, hb⟩
        refine ⟨_, rfl, ?_⟩
        have nf_ := aa_.mk (aV_.farN (by repeat (first | (with_reducible first | exact HI0.out | apply aV_.drewN | apply aV_.drew) | exact HI0.out)) ho0 hb)
        have n0_ := aa_.mk (Kd.pY_ ho0 (a9_ (w := w) (g := g) (row := none) (Z40)))
        have n1_ := aa_.mk (aV_.below (Z48) hb)
        have n2_ := aa_.mk (Ye_ bL)
        have n3_ := aa_.mk (ag_.trans (Z40) (ag_.of_below hb g none) (.inl rfl))
        have n4_ := aa_.mk (aq_ (Z49) hb)
        have z_HO130 := fun (h0_ : b 4 = true) (h5_ : b 5 = false) => (show Kd.R (Kd.int .i64) 3 m9 w.heap.size (fun _ => True) dT zX from by first | exact (Kd.qc_ (oe_) (Kd.p9_ ho0) hb) | exact Kd.pX_ (Kd.qc_ (oe_) (Kd.p9_ ho0) hb) (fun _ h_ => by first | trivial | exact h_ | exact h_.1))
        clear HI0
        clear bL
        clear HK
        clear HB
        have pb := n0_
        have HI0 := n1_
        have bL := n2_
        have HK := n3_
        have HB := n4_
        clear n0_ n1_ n2_ n3_ n4_
        (try clear hb)
        (try clear ho0)
        refine hK.out _ _ ⟨dD, dT, ea, (by rw [ha.out]; exact cL_ 0 hb_ rfl rfl rfl), (Z5 bL), fun _ => (Z48), (Z40), (Z49), fun _ _ => ⟨pb.out, nf_.out⟩, z_HO130, fun h0_ => absurd ((hoff 5 (by kernel_rfl)).symm.trans h0_) (by decide), fun h0_ => absurd ((hoff 21 (by kernel_rfl)).symm.trans h0_) (by decide)⟩
       refine cI_ ?_ ?_
       ·rintro b a w' ⟨dD, dT, ea, ha, Q_BK124, Q_HI0, Q_HK, Q_HB, Q_HO127, Q_HO130, Q_HO133, Q_HI0_e21⟩ hb_ hon hoff
        refine ⟨_, rfl, fun K hK => ?_⟩
        have e65 : a.tmps[65]? = some (.int .i64 bq) := by rw [ha]; exact (cJ_ rfl).trans rfl
        replace ha := aa_.mk ha
        have bL := aa_.mk Q_BK124
        have HI0 := aa_.mk (Q_HI0 (hoff 21 (by kernel_rfl)))
        have HK := aa_.mk Q_HK
        have HB := aa_.mk Q_HB
        refine ls_ (Kd.int .i64) 3 66 ([bq] : List Int) [.int .i64 bq] (aH_.one (show Kd.M (Kd.int .i64) _ _ _ bq [.int .i64 bq] from rfl) (aH_.none _ _)) ?_
        intro dT m9 ho34 hb hg_ hnew_
        clear hg_ hnew_
        (first | rw [← wD.out] at ho34 | (simp only [Int.reduceToNat] at ho34; rw [← wD.out] at ho34))
        have n0_ := aa_.mk (Kd.pY_ ho34 (a9_ (w := w) (g := g) (row := none) (Z40)))
        have n1_ := aa_.mk (aV_.below (Z48) hb)
        have n2_ := aa_.mk (Ye_ bL)
        have n3_ := aa_.mk (ag_.trans (Z40) (ag_.of_below hb g none) (.inl rfl))
        have n4_ := aa_.mk (aq_ (Z49) hb)
        have z_HO127 := fun (h0_ : b 2 = true) (h5_ : b 5 = false) => And.intro (show Kd.R (Kd.int .i64) 3 m9 w.heap.size (fun _ => True) dD vx from by first | exact (Kd.qc_ (oj_) (Kd.p9_ ho34) hb) | exact Kd.pX_ (Kd.qc_ (oj_) (Kd.p9_ ho34) hb) (fun _ h_ => by first | trivial | exact h_ | exact h_.1)) (cG_.below (aV_.lt HI0.out) (Q_HO127 h0_ h5_).2 hb)
        clear HI0
        clear bL
        clear HK
        clear HB
        have wG := n0_
        have HI0 := n1_
        have bL := n2_
        have HK := n3_
        have HB := n4_
        clear n0_ n1_ n2_ n3_ n4_
        clear hb ho34
        refine hK.out _ _ ⟨dD, dT, ea, (by rw [ha.out]; exact cL_ 1 hb_ rfl rfl rfl), (Z5 bL), fun _ => (Z48), (Z40), (Z49), z_HO127, fun _ _ => (Z1 wG), fun h0_ => absurd ((hoff 5 (by kernel_rfl)).symm.trans h0_) (by decide), fun h0_ => absurd ((hoff 21 (by kernel_rfl)).symm.trans h0_) (by decide)⟩
       refine cI_ ?_ ?_
       ·rintro b a w' ⟨dD, dT, ea, ha, Q_BK124, Q_HI0, Q_HK, Q_HB, Q_HO127, Q_HO130, Q_HO133, Q_HI0_e21⟩ hb_ hon hoff
        refine ⟨_, rfl, fun K hK => ?_⟩
        have e64 : a.tmps[64]? = some dD := by rw [ha]; exact c3_ (e := (2, 64, dD)) 0 rfl rfl (hon 2 (by kernel_rfl)) rfl
        have e66 : a.tmps[66]? = some dT := by rw [ha]; exact c3_ (e := (4, 66, dT)) 1 rfl rfl (hon 4 (by kernel_rfl)) rfl
        replace ha := aa_.mk ha
        have bL := aa_.mk Q_BK124
        have HI0 := aa_.mk (Q_HI0 (hoff 21 (by kernel_rfl)))
        have HK := aa_.mk Q_HK
        have HB := aa_.mk Q_HB
        have pb := aa_.mk (Q_HO127 (hon 2 (by kernel_rfl)) hb_).1
        have NF := aa_.mk (Q_HO127 (hon 2 (by kernel_rfl)) hb_).2
        have wG := aa_.mk (Q_HO130 (hon 4 (by kernel_rfl)) hb_)
        obtain ⟨Aq_, cq_, eq_⟩ := Kd.pW_ wG.out
        obtain ⟨hq1_, hq2_, hq3_⟩ := dI_.eqs gL.out i7.out
        refine Kd.qp_ (Kd.int .i64) (w0 := w') w.heap.size (by rfl) (.tmp 64) (.tmp 66) 43 3 (.int .i64 0) 8 rfl Tryz.underlying43 hc_ rfl (by decide) (by omega) dD vx zX Aq_ zX.length cq_ (fun _ => True) (fun _ => False) (by simp only [Act.eval, Array.getD_eq_getD_getElem?, e64, Option.getD_some]) (by simp only [Act.eval, Array.getD_eq_getD_getElem?, e66, Option.getD_some]; exact eq_) pb.out ?aR (fun _ _ h => h) (fun _ h => h.elim) (fun _ _ => trivial) (Below.refl _ _) ?aS ?aL ?_
        (case aR => exact (Kd.pV_ (eq_ ▸ wG.out)).2.2)
        (case aS => exact a9_ (w := w) (g := g) (row := none) HK.out)
        (case aL => rw [wD.out]; simp only [List.length_cons, List.length_nil]; omega)
        intro ea Jh ho hb hg hat
        rw [show vx ++ zX = n7 from by rw [wD.out]; exact hq2_] at ho
        have n3_ := aa_.mk (aV_.grown HI0.out hg (aV_.own_ne HI0.out pb.out (by decide)) NF.out)
        have n4_ := aa_.mk (bg_ bL.out hg (Kd.qb_ pb.out bL.out (by decide)))
        have n5_ := aa_.mk (ag_.trans HK.out (ag_.of_grown hg g) (Kd.qk_ pb.out))
        have n6_ := aa_.mk (cN_ HB.out HL.out hb)
        clear HI0 bL HK HB
        have HI0 := n3_
        have bL := n4_
        have HK := n5_
        have HB := n6_
        clear n3_ n4_ n5_ n6_
        refine hK.out _ _ ⟨dD, dT, ea, (by rw [ha.out]; exact cL_ 2 hb_ rfl rfl rfl), (Z5 bL), fun _ => (Z48), (Z40), (Z49), fun _ h5_ => absurd ((eN_ b 5).symm.trans h5_) (by decide), fun _ h5_ => absurd ((eN_ b 5).symm.trans h5_) (by decide), fun _ => ho, fun h0_ => absurd ((hoff 21 (by kernel_rfl)).symm.trans h0_) (by decide)⟩
       refine cI_ ?_ ?_
       ·rintro b a w' ⟨dD, dT, ea, ha, Q_BK124, Q_HI0, Q_HK, Q_HB, Q_HO127, Q_HO130, Q_HO133, Q_HI0_e21⟩ hb_ hon hoff
        refine ⟨_, rfl, fun K hK => ?_⟩
        have e7 : a.tmps[7]? = some (.pointer (some ⟨cy, 0, none⟩)) := by rw [ha]; exact (cJ_ rfl).trans rfl
        replace ha := aa_.mk ha
        have bL := aa_.mk Q_BK124
        have HI0 := aa_.mk (Q_HI0 (hoff 21 (by kernel_rfl)))
        have HK := aa_.mk Q_HK
        have HB := aa_.mk Q_HB
        have hc0_ : w'.cell? ⟨cy, 0, none⟩ = some (.int .i64 ((ac_ l3 (rd l1 (bP))).f0)) := (aE_ bL.out 0).trans rfl
        have hc1_ : w'.cell? ⟨cy, 1, none⟩ = some (.int .i64 ((ac_ l3 (rd l1 (bP))).f1)) := (aE_ bL.out 1).trans rfl
        refine d9_ (w1 := w') (v := .agg #[.int .i64 ((ac_ l3 (rd l1 (bP))).f0), .int .i64 ((ac_ l3 (rd l1 (bP))).f1)]) (by rfl) rfl ?_ ?_
        ·go_simp
         (try simp only [bA_])
         try rfl
        refine hK.out _ _ ⟨dD, dT, ea, (by rw [ha.out]; exact cL_ 3 hb_ rfl rfl rfl), Q_BK124, Q_HI0, Q_HK, Q_HB, Q_HO127, Q_HO130, Q_HO133, fun h0_ => absurd ((hoff 21 (by kernel_rfl)).symm.trans h0_) (by decide)⟩
       refine cI_ ?_ ?_
       ·rintro b a w' ⟨dD, dT, ea, ha, Q_BK124, Q_HI0, Q_HK, Q_HB, Q_HO127, Q_HO130, Q_HO133, Q_HI0_e21⟩ hb_ hon hoff
        refine ⟨_, rfl, fun K hK => ?_⟩
        have e72 : a.tmps[72]? = some (.pointer (some ⟨g, 0, none⟩)) := by rw [ha]; exact (cJ_ rfl).trans rfl
        replace ha := aa_.mk ha
        have HI0 := aa_.mk (Q_HI0 (hoff 21 (by kernel_rfl)))
        have hc0_ := aV_.cellL HI0.out
        refine d9_ (w1 := w') (v := .slice (some cK) l3.length c3) (by rfl) rfl ?_ ?_
        ·go_simp
         (try simp only [bA_])
         try rfl
        refine hK.out _ _ ⟨dD, dT, ea, (by rw [ha.out]; exact cL_ 4 hb_ rfl rfl rfl), Q_BK124, Q_HI0, Q_HK, Q_HB, Q_HO127, Q_HO130, Q_HO133, fun h0_ => absurd ((hoff 21 (by kernel_rfl)).symm.trans h0_) (by decide)⟩
       refine cI_ ?_ ?_
       ·rintro b a w' ⟨dD, dT, ea, ha, Q_BK124, Q_HI0, Q_HK, Q_HB, Q_HO127, Q_HO130, Q_HO133, Q_HI0_e21⟩ hb_ hon hoff
        refine ⟨_, rfl, fun K hK => ?_⟩
        have e73 : a.tmps[73]? = some (.slice (some cK) l3.length c3) := by rw [ha]; exact c3_ (e := (11, 73, .slice (some cK) l3.length c3)) 4 rfl rfl (hon 11 (by kernel_rfl)) rfl
        have e74 : a.tmps[74]? = some (.int .i64 bq) := by rw [ha]; exact (cJ_ rfl).trans rfl
        replace ha := aa_.mk ha
        have bL := aa_.mk Q_BK124
        have HI0 := aa_.mk (Q_HI0 (hoff 21 (by kernel_rfl)))
        have HK := aa_.mk Q_HK
        have HB := aa_.mk Q_HB
        obtain ⟨adq_, eq_, hs0_, hs1_⟩ := cZ_ (Kd.qq_ HR3.out HK.out) bq (of_eq_true z2) (of_eq_true z3)
        obtain rfl : cK = adq_ := (by injection eq_)
        refine d9_ (w1 := w') (v := .pointer (some (cK.add ((bq).toNat * 2)))) (by rfl) rfl ?_ ?_
        ·go_simp
         (try simp only [bA_])
         try rfl
        refine hK.out _ _ ⟨dD, dT, ea, (by rw [ha.out]; exact cL_ 5 hb_ rfl rfl rfl), Q_BK124, Q_HI0, Q_HK, Q_HB, Q_HO127, Q_HO130, Q_HO133, fun h0_ => absurd ((hoff 21 (by kernel_rfl)).symm.trans h0_) (by decide)⟩
       refine cI_ ?_ ?_
       ·rintro b a w' ⟨dD, dT, ea, ha, Q_BK124, Q_HI0, Q_HK, Q_HB, Q_HO127, Q_HO130, Q_HO133, Q_HI0_e21⟩ hb_ hon hoff
        refine ⟨_, rfl, fun K hK => ?_⟩
        have e75 : a.tmps[75]? = some (.pointer (some (cK.add ((bq).toNat * 2)))) := by rw [ha]; exact c3_ (e := (13, 75, .pointer (some (cK.add ((bq).toNat * 2))))) 5 rfl rfl (hon 13 (by kernel_rfl)) rfl
        replace ha := aa_.mk ha
        have bL := aa_.mk Q_BK124
        have HI0 := aa_.mk (Q_HI0 (hoff 21 (by kernel_rfl)))
        have HK := aa_.mk Q_HK
        have HB := aa_.mk Q_HB
        obtain ⟨adq_, eq_, hs0_, hs1_⟩ := cZ_ (Kd.qq_ HR3.out HK.out) bq (of_eq_true z2) (of_eq_true z3)
        obtain rfl : cK = adq_ := (by injection eq_)
        refine d9_ (w1 := w') (v := .agg #[.int .i64 ((ac_ l3 bq).f0), .int .i64 ((ac_ l3 bq).f1)]) (by rfl) rfl ?_ ?_
        ·go_simp
         (try simp only [bA_])
         try rfl
        refine hK.out _ _ ⟨dD, dT, ea, (by rw [ha.out]; exact cL_ 6 hb_ rfl rfl rfl), Q_BK124, Q_HI0, Q_HK, Q_HB, Q_HO127, Q_HO130, Q_HO133, fun h0_ => absurd ((hoff 21 (by kernel_rfl)).symm.trans h0_) (by decide)⟩
       refine cI_ ?_ ?_
       ·rintro b a w' ⟨dD, dT, ea, ha, Q_BK124, Q_HI0, Q_HK, Q_HB, Q_HO127, Q_HO130, Q_HO133, Q_HI0_e21⟩ hb_ hon hoff
        refine ⟨_, rfl, fun K hK => ?_⟩
        have e79 : a.tmps[79]? = some (.pointer (some ⟨g, 1, none⟩)) := by rw [ha]; exact (cJ_ rfl).trans rfl
        replace ha := aa_.mk ha
        have HI0 := aa_.mk (Q_HI0 (hoff 21 (by kernel_rfl)))
        have hc0_ := aV_.cellA HI0.out
        refine d9_ (w1 := w') (v := .int .i64 a4) (by rfl) rfl ?_ ?_
        ·go_simp
         (try simp only [bA_])
         try rfl
        refine hK.out _ _ ⟨dD, dT, ea, (by rw [ha.out]; exact cL_ 7 hb_ rfl rfl rfl), Q_BK124, Q_HI0, Q_HK, Q_HB, Q_HO127, Q_HO130, Q_HO133, fun h0_ => absurd ((hoff 21 (by kernel_rfl)).symm.trans h0_) (by decide)⟩
       refine cI_ ?_ ?_
       ·rintro b a w' ⟨dD, dT, ea, ha, Q_BK124, Q_HI0, Q_HK, Q_HB, Q_HO127, Q_HO130, Q_HO133, Q_HI0_e21⟩ hb_ hon hoff
        refine ⟨_, rfl, fun K hK => ?_⟩
        have e69 : a.tmps[69]? = some (.agg #[.int .i64 ((ac_ l3 (rd l1 (bP))).f0), .int .i64 ((ac_ l3 (rd l1 (bP))).f1)]) := by rw [ha]; exact c3_ (e := (7, 69, .agg #[.int .i64 ((ac_ l3 (rd l1 (bP))).f0), .int .i64 ((ac_ l3 (rd l1 (bP))).f1)])) 3 rfl rfl (hon 7 (by kernel_rfl)) rfl
        have e76 : a.tmps[76]? = some (.agg #[.int .i64 ((ac_ l3 bq).f0), .int .i64 ((ac_ l3 bq).f1)]) := by rw [ha]; exact c3_ (e := (14, 76, .agg #[.int .i64 ((ac_ l3 bq).f0), .int .i64 ((ac_ l3 bq).f1)])) 6 rfl rfl (hon 14 (by kernel_rfl)) rfl
        have e80 : a.tmps[80]? = some (.int .i64 a4) := by rw [ha]; exact c3_ (e := (18, 80, .int .i64 a4)) 7 rfl rfl (hon 18 (by kernel_rfl)) rfl
        replace ha := aa_.mk ha
        have bL := aa_.mk Q_BK124
        have HI0 := aa_.mk (Q_HI0 (hoff 21 (by kernel_rfl)))
        have HK := aa_.mk Q_HK
        have HB := aa_.mk Q_HB
        have ez := aa_.mk (Q_HO133 (hon 5 (by kernel_rfl)))
        refine cs_ Tryz.func82 (by kernel_rfl) rfl #[.agg #[.int .i64 ((ac_ l3 (rd l1 (bP))).f0), .int .i64 ((ac_ l3 (rd l1 (bP))).f1)], .agg #[.int .i64 ((ac_ l3 bq).f0), .int .i64 ((ac_ l3 bq).f1)], .int .i64 a4] (by rfl) rfl rfl (by (try simp only [List.map_toArray, List.map_cons, List.map_nil]); first | done | (simp only [Act.eval, Array.getD_eq_getD_getElem?, e69, e76, e80, Option.getD_some]) | (simp only [hji16]; rfl) | rfl | (simp only [List.length_drop, List.length_take]; rfl)) ?_
        with_reducible refine (dC_.calls ((ac_ l3 (rd l1 (bP))).f0) ((ac_ l3 (rd l1 (bP))).f1) ((ac_ l3 bq).f0) ((ac_ l3 bq).f1) a4 iU _ la.out).mono ?_
        rintro e uP ⟨rfl, hb⟩
        refine ⟨_, rfl, ?_⟩
        have n2_ := aa_.mk (Ya_ ez)
        have n3_ := aa_.mk (aV_.below (Z48) hb)
        have n4_ := aa_.mk (Ye_ bL)
        have n5_ := aa_.mk (ag_.trans (Z40) (ag_.of_below hb g none) (.inl rfl))
        have n6_ := aa_.mk (aq_ (Z49) hb)
        clear ez
        clear HI0
        clear bL
        clear HK
        clear HB
        have ez := n2_
        have HI0 := n3_
        have bL := n4_
        have HK := n5_
        have HB := n6_
        clear n2_ n3_ n4_ n5_ n6_
        (try clear hb)
        refine hK.out _ _ ⟨dD, dT, ea, (by rw [ha.out]; exact cL_ 8 hb_ rfl rfl rfl), (Z5 bL), fun _ => (Z48), (Z40), (Z49), fun _ h5_ => absurd ((hon 5 (by kernel_rfl)).symm.trans h5_) (by decide), fun _ h5_ => absurd ((hon 5 (by kernel_rfl)).symm.trans h5_) (by decide), fun _ => (Z1 ez), fun h0_ => absurd ((hoff 21 (by kernel_rfl)).symm.trans h0_) (by decide)⟩
       refine cI_ ?_ ?_
       ·rintro b a w' ⟨dD, dT, ea, ha, Q_BK124, Q_HI0, Q_HK, Q_HB, Q_HO127, Q_HO130, Q_HO133, Q_HI0_e21⟩ hb_ hon hoff
        refine ⟨_, rfl, fun K hK => ?_⟩
        have e68 : a.tmps[68]? = some (.int .i64 a2) := by rw [ha]; exact (cJ_ rfl).trans rfl
        have e81 : a.tmps[81]? = some (.int .i64 iU) := by rw [ha]; exact c3_ (e := (19, 81, .int .i64 iU)) 8 rfl rfl (hon 19 (by kernel_rfl)) rfl
        replace ha := aa_.mk ha
        have bL := aa_.mk Q_BK124
        have HI0 := aa_.mk (Q_HI0 (hoff 21 (by kernel_rfl)))
        have HK := aa_.mk Q_HK
        have HB := aa_.mk Q_HB
        have ez := aa_.mk (Q_HO133 (hon 5 (by kernel_rfl)))
        refine d9_ (w1 := w') (v := .int .i64 (wrap64 (a2 + iU))) (by rfl) rfl ?_ ?_
        ·go_simp
         (try simp only [bA_])
         try rfl
        refine hK.out _ _ ⟨dD, dT, ea, (by rw [ha.out]; exact cL_ 9 hb_ rfl rfl rfl), Q_BK124, Q_HI0, Q_HK, Q_HB, Q_HO127, Q_HO130, Q_HO133, fun h0_ => absurd ((hoff 21 (by kernel_rfl)).symm.trans h0_) (by decide)⟩
       refine cI_ ?_ ?_
       ·rintro b a w' ⟨dD, dT, ea, ha, Q_BK124, Q_HI0, Q_HK, Q_HB, Q_HO127, Q_HO130, Q_HO133, Q_HI0_e21⟩ hb_ hon hoff
        refine ⟨_, rfl, fun K hK => ?_⟩
        have e62 : a.tmps[62]? = some (.pointer (some ⟨g, 0, none⟩)) := by rw [ha]; exact (cJ_ rfl).trans rfl
        have e67 : a.tmps[67]? = some (ea) := by rw [ha]; exact c3_ (e := (5, 67, ea)) 2 rfl rfl (hon 5 (by kernel_rfl)) rfl
        have e82 : a.tmps[82]? = some (.int .i64 (wrap64 (a2 + iU))) := by rw [ha]; exact c3_ (e := (20, 82, .int .i64 (wrap64 (a2 + iU)))) 9 rfl rfl (hon 20 (by kernel_rfl)) rfl
        replace ha := aa_.mk ha
        have bL := aa_.mk Q_BK124
        have HI0 := aa_.mk (Q_HI0 hb_)
        have HK := aa_.mk Q_HK
        have HB := aa_.mk Q_HB
        have ez := aa_.mk (Q_HO133 (hon 5 (by kernel_rfl)))
        obtain ⟨HW, HX, Ct⟩ := Kd.pW_ ez.out
        (first | subst Ct | (injection Ct with f1_ f2_ f3_; have f4_ := f1_.symm; have f5_ := f3_.symm; clear f1_ f2_ f3_; subst f4_; subst f5_))
        refine cs_ Tryz.func44 (by kernel_rfl) rfl #[.pointer (some ⟨g, 0, none⟩), .slice HW n7.length HX, .int .i64 (wrap64 (a2 + iU))] (by rfl) rfl rfl (by first | (simp only [List.map_toArray, List.map_cons, List.map_nil, Act.eval, Array.getD_eq_getD_getElem?, Option.getD_some, e62, e67, e82]; done) | (simp only [List.map_toArray, List.map_cons, List.map_nil, Act.eval, Array.getD_eq_getD_getElem?, Option.getD_some, e62, e67, e82]; rfl)) ?_
        with_reducible refine (ih k2 (fc_ BJ) g dr ck _ _ n7 (wrap64 (a2 + iU)) (some cK) c3 l3 a4 HH HJ w0 _ ?side1 ?side2 ?side3 ?side4 ?side5 ?side6 ?side7 ?side8 A26.out).mono ?_
        (case side1 => exact Z48)
        (case side2 => exact Z49)
        (case side3 => exact Z3 ez)
        (case side4 => exact (Kd.pV_ ez.out).2.1)
        (case side5 => exact ci_ (aV_.own_ne HI0.out ez.out (by decide)))
        (case side6 => exact Kd.qz_ HR3.out (Z40))
        (case side7 => exact HC3.out)
        (case side8 => exact Kd.pY_ ez.out HL.out)
        rintro e Ca ⟨rfl, hi, hb, hk⟩
        refine ⟨_, rfl, ?_⟩
        have n0_ := aa_.mk (ag_.blk hk (zo_ bL) NB124_0.out (by simp))
        have n3_ := aa_.mk (Kd.pX_ (Kd.p8_ (aV_.apart (show aV_ (some cK) l3.length c3 a4 w0 _ g dr ck from Z48) (Z1 ez) (by decide)) hk (fun _ h => h.2)) (fun _ h => h.1))
        have n4_ := aa_.mk (ag_.trans (Z40) hk (.inl rfl))
        have n5_ := aa_.mk (hb)
        have n6_ := aa_.mk (hi)
        clear bL
        clear ez
        clear HK
        clear HB
        clear HI0
        have bL := n0_
        have ez := n3_
        have HK := n4_
        have HB := n5_
        have HI0 := n6_
        clear n0_ n3_ n4_ n5_ n6_
        (try clear hb)
        (try clear hk)
        (try clear hi)
        refine hK.out _ _ ⟨dD, dT, .slice HW n7.length HX, (by rw [ha.out]; exact cL_ 10 hb_ rfl rfl rfl), (Z5 bL), fun h0_ => absurd ((eN_ b 21).symm.trans h0_) (by decide), (Z40), (Z49), fun _ h5_ => absurd ((hon 5 (by kernel_rfl)).symm.trans h5_) (by decide), fun _ h5_ => absurd ((hon 5 (by kernel_rfl)).symm.trans h5_) (by decide), fun _ => (Z1 ez), fun _ => (Z48)⟩
       exact lT_
      rintro b a Ca hall ⟨dD, dT, ea, ha, Q_BK124, Q_HI0, Q_HK, Q_HB, Q_HO127, Q_HO130, Q_HO133, Q_HI0_e21⟩
      clear bL HB HI0 HK
      have hb2_ := hall 2 (by kernel_rfl)
      have hb4_ := hall 4 (by kernel_rfl)
      have hb5_ := hall 5 (by kernel_rfl)
      have hb7_ := hall 7 (by kernel_rfl)
      have hb11_ := hall 11 (by kernel_rfl)
      have hb18_ := hall 18 (by kernel_rfl)
      have hb13_ := hall 13 (by kernel_rfl)
      have hb14_ := hall 14 (by kernel_rfl)
      have hb19_ := hall 19 (by kernel_rfl)
      have hb20_ := hall 20 (by kernel_rfl)
      have hb21_ := hall 21 (by kernel_rfl)
      subst ha
      simp only [cC_, hb2_, hb4_, hb5_, hb7_, hb11_, hb13_, hb14_, hb18_, hb19_, hb20_, hb21_, if_true, Act.put, List.setIfInBounds_toArray, List.set_cons_zero, List.set_cons_succ]
      have bL := aa_.mk Q_BK124
      clear Q_BK124
      clear Q_HI0
      have HK := aa_.mk Q_HK
      clear Q_HK
      have HB := aa_.mk Q_HB
      clear Q_HB
      clear Q_HO127
      clear Q_HO130
      have ez := aa_.mk (Q_HO133 hb5_)
      clear Q_HO133
      have HI0 := aa_.mk (Q_HI0_e21 hb21_)
      clear Q_HI0_e21
      clear hall hb2_ hb4_ hb5_ hb7_ hb11_ hb13_ hb14_ hb18_ hb19_ hb20_ hb21_
      try go_wp2
      go_roundg k2
      case measure => have := BJ.out; have := HK2.out; omega
      case rel => exact ⟨(wrap64 (bq + 1)), (HH), (HJ), (Z14), H', ⟨fc_ BJ⟩, ⟨Z48⟩, ⟨Z40⟩, ⟨Z49⟩⟩
     obtain ⟨rfl, rfl⟩ := sp_ H; clear H
     go_wp2
     first | go_end0 | ((try simp only [Exit.inBlock, Exit.then]); refine bodyPost_ret (results_none rfl _ _ _) rfl ?_)
     exact ⟨Z9, Z60, Z68, Z6⟩
theorem gB_ {p : Prop} (h : p := by repeat' first | (with_reducible first | apply ih0 | apply ih0 | apply ih1 | apply ih1 | apply ap_.mono | apply ap_.mono | apply aS_.mono | apply aS_.mono | apply aQ_.mono | apply aQ_.mono | apply cS_.mono | apply cS_.mono | apply cU_.mono | apply cU_.mono | exact LeO.refl _ | exact LeO.none _ | refine LeO.ite ?_ ?_ | refine LeO.bind ?_ (fun _ => ?_)) | exact LeO.none _ | refine LeO.ite ?_ ?_ | refine LeO.bind ?_ (fun _ => ?_)) : p := h
def cS_.f (k : Nat) (l : List (S42)) (a : Int) : Option (List Int) := (al_.f k [] 0 [0] 0 l a).map Prod.fst
def cU_.f (k : Nat) (l : List (S42)) (a : Int) : Option Int := (al_.f k [] 0 [0] 0 l a).map Prod.snd
theorem cS_.mono (l : List (S42)) (a : Int) (k : Nat) : LeO (cS_.f k l a) (cS_.f (k + 1) l a) := by
 intro r h
 obtain ⟨x, hx, e⟩ := Option.map_eq_some_iff.mp h
 exact Option.map_eq_some_iff.mpr ⟨x, al_.mono _ _ _ _ _ _ k x hx, e⟩
theorem cU_.mono (l : List (S42)) (a : Int) (k : Nat) : LeO (cU_.f k l a) (cU_.f (k + 1) l a) := by
 intro r h
 obtain ⟨x, hx, e⟩ := Option.map_eq_some_iff.mp h
 exact Option.map_eq_some_iff.mpr ⟨x, al_.mono _ _ _ _ _ _ k x hx, e⟩
theorem hj_ {k : Nat} {l : List (S42)} {a n : Int} {o : List Int} (h1 : cU_.f k l a = some n) (h2 : cS_.f k l a = some o) : al_.f k [] 0 [0] 0 l a = some (o, n) := by
 obtain ⟨x, hx, e⟩ := Option.map_eq_some_iff.mp h1
 obtain ⟨y, hy, e2⟩ := Option.map_eq_some_iff.mp h2
 rw [hx] at hy
 obtain rfl := Option.some.inj hy
 rw [hx, ← e, ← e2]
mutual
def ay_.j0 : Nat → List (S42) → Int → Bool → Option ((List (S42)) × Int × Bool)
 | 0, _, _, _ => none
 | k + 1, x0, x1, x23 => if x23 = true then (some (([] : List (S42)), 0, false)) else (if (x0.length : Int) = 0 then (some (([] : List (S42)), 0, true)) else ((cU_.f k x0 x1).bind fun sn => ((cS_.f k x0 x1).bind fun cv => (ay_.l0 k x0 sn ([] : List (S42)) cv (cv.length : Int) 0))))
def ay_.l0 : Nat → List (S42) → Int → List (S42) → List Int → Int → Int → Option ((List (S42)) × Int × Bool)
 | 0, _, _, _, _, _, _ => none
 | k + 1, x0, x7, x8, x37, x38, x39 => if x39 < x38 then (if 0 ≤ x39 then (if x39 < (x37.length : Int) then (if 0 ≤ (rd x37 x39) then (if (rd x37 x39) < (x0.length : Int) then (if x8.length < 8796093022208 then (ay_.l0 k x0 x7 (x8 ++ [(⟨(ac_ x0 (rd x37 x39)).f0, (ac_ x0 (rd x37 x39)).f1⟩ : S42)]) x37 x38 (wrap64 (x39 + 1))) else (none)) else (none)) else (none)) else (none)) else (none)) else (some (x8, x7, true))
end
def ay_.f (k : Nat) (l0 : List (S42)) (a1 : Int) : Option ((List (S42)) × Int × Bool) := (aQ_.f k l0).bind fun z4 => (if z4 = true then (if (l0.length : Int) > 7 then (ay_.j0 k l0 a1 true) else ((dg_.f a1).bind fun sq => (ay_.j0 k l0 a1 (!sq)))) else (ay_.j0 k l0 a1 true))
theorem ay_.mono_l : ∀ k, (∀ y0 y1 y2, LeO (ay_.j0 k y0 y1 y2) (ay_.j0 (k + 1) y0 y1 y2)) ∧ (∀ y0 y1 y2 y3 y4 y5, LeO (ay_.l0 k y0 y1 y2 y3 y4 y5) (ay_.l0 (k + 1) y0 y1 y2 y3 y4 y5))
 | 0 => ⟨fun _ _ _ r h => by simp [ay_.j0] at h, fun _ _ _ _ _ _ r h => by simp [ay_.l0] at h⟩
 | k + 1 => by
  obtain ⟨ih0, ih1⟩ := ay_.mono_l k
  refine ⟨?_, ?_⟩
  ·intro y0 y1 y2
   unfold ay_.j0
   exact gB_
  intro y0 y1 y2 y3 y4 y5
  unfold ay_.l0
  exact gB_
theorem ay_.mono : ∀ a0 a1 k, LeO (ay_.f k a0 a1) (ay_.f (k + 1) a0 a1) := by
 intro a0 a1 k
 obtain ⟨ih0, ih1⟩ := ay_.mono_l k
 unfold ay_.f
 exact gB_
set_option maxHeartbeats 8000000 in
set_option maxRecDepth 100000 in
theorem ay_.calls (k : Nat) (A0 : Option Addr) (c0 : Nat) (l0 : List (S42)) (a1 : Int) (r1 : List (S42)) (r2 : Int) (r3 : Bool) (w : World) (hr0 : Kd.C k42 w A0 l0.length l0) (hc0 : l0.length ≤ c0) (h : ay_.f k l0 a1 = some (r1, r2, r3)) :
  Calls Tryz.prog 16 #[.slice A0 l0.length c0, .int .i64 a1] w fun e w' => ∃ v0_ : Value, e = .returned (.tuple #[v0_, .int .i64 r2, .bool r3]) ∧ Kd.R k42 42 w' w.heap.size (fun _ => True) v0_ r1 ∧ Below w.heap.size w w' := by
 have hu42 := Tryz.underlying42
 have HR0 := aa_.mk hr0
 have HC0 := aa_.mk hc0
 clear hr0 hc0
 have HB := aa_.mk (Below.refl w.heap.size w)
 have H := h; unfold ay_.f at H
 clear h
 have HC3 := aa_.mk H
 clear H
 go_enter Tryz.func16, Tryz.ntmps16
 go_upto_region 1 with (fail)
 repeat (go_quiet (fail); go_upto_region 1 with (fail))
 go_cut [23] (fun Kt wc => ∃ (kq : Nat) (bE : Bool), Kt = .bool bE ∧ aa_ (ay_.j0 kq l0 a1 bE = some (r1, r2, r3)) ∧ aa_ (kq ≤ k) ∧ aa_ (Below w.heap.size w wc))
 case first =>
  have H := HC3.out
  clear HC3
  replace H := bd_ H; obtain ⟨z4, A4, H⟩ := H
  replace H := it_ H; obtain ⟨rfl, H⟩ | ⟨rfl, H⟩ := H
  ·replace H := iw_ H; obtain ⟨c6, H⟩ | ⟨c6, H⟩ := H
   ·have cC : decide (7 < (l0.length : Int)) = true := decide_eq_true c6
    have fR : decide (7 < l0.length) = true := decide_eq_true (by omega)
    clear c6
    (first | rw [cC] | (simp only [bA_, ch_]; rw [cC]) | skip)
    have H' := aa_.mk H
    clear H
    go_wp2_with ((go_at_call 36; (with_reducible refine (aQ_.calls k _ _ l0 true _ ?_ ?_ A4.out).mono ?_); exact (Z10 HR0); exact HC0.out; rintro e w7 ⟨rfl, hb⟩; refine k1_ Ws_ ?_; clear HB; intro HB; (try clear hb)))
    repeat (go_quiet (fail); try go_wp2_with (fail))
    go_meet
    case rel => exact ⟨_, (true), (Z14), H', ⟨d7_⟩, ⟨Z2⟩⟩
   have cC : decide (7 < (l0.length : Int)) = false := decide_eq_false c6
   have fR : decide (7 < l0.length) = false := decide_eq_false (by omega)
   clear c6
   (first | rw [cC] | (simp only [bA_, ch_]; rw [cC]) | skip)
   replace H := bd_ H; obtain ⟨sq, A8, H⟩ := H
   have H' := aa_.mk H
   clear H
   go_wp2_with (first | (go_at_call 36; (with_reducible refine (aQ_.calls k _ _ l0 true _ ?_ ?_ A4.out).mono ?_); exact (Z10 HR0); exact HC0.out; rintro e w9 ⟨rfl, hb⟩; refine k1_ Ws_ ?_; clear HB; intro HB; (try clear hb)) | (go_at_call 43; (with_reducible refine (dg_.calls a1 sq _ A8.out).mono ?_); rintro e w' ⟨rfl, ⟨nd, rfl⟩⟩; (try first | exact ⟨rfl, _, dA_⟩ | exact ⟨rfl, _, dB_⟩)))
   repeat (go_quiet (fail); try go_wp2_with (fail))
   go_meet
   case rel => exact ⟨_, (!sq), (Z14), H', ⟨d7_⟩, ⟨Z2⟩⟩
  have H' := aa_.mk H
  clear H
  go_wp2_with ((go_at_call 36; (with_reducible refine (aQ_.calls k _ _ l0 false _ ?_ ?_ A4.out).mono ?_); exact (Z10 HR0); exact HC0.out; rintro e jc ⟨rfl, hb⟩; refine k1_ Ws_ ?_; clear HB; intro HB; (try clear hb)))
  repeat (go_quiet (fail); try go_wp2_with (fail))
  go_meet
  case rel => exact ⟨_, (true), (Z14), H', ⟨d7_⟩, ⟨Z2⟩⟩
 case rest =>
  clear HC3
  obtain ⟨kq, bE, rfl, HA, zS, HB⟩ := hcut
  cases kq with
  | zero => exact absurd HA.out (by simp [ay_.j0])
  | succ o8 =>
   have H := HA.out
   clear HA
   simp only [ay_.j0] at H
   replace H := it_ H; obtain ⟨rfl, H⟩ | ⟨rfl, H⟩ := H
   ·obtain ⟨rfl, rfl, rfl⟩ := sq_ H; clear H
    go_wp2
    repeat (go_quiet (fail); try go_wp2)
    go_ret3
    exact ⟨_, Z9, Z17, Z2⟩
   replace H := ic_ H; obtain ⟨fm, o9, H⟩ | ⟨fm, o9, c12, H⟩ := H
   ·obtain ⟨rfl, rfl, rfl⟩ := sq_ H; clear H
    go_wp2
    repeat (go_quiet (fail); try go_wp2)
    go_ret3
    exact ⟨_, Z9, Z17, Z2⟩
   have wB : ¬ (l0 = []) := fun h_ => c12 (by rw [h_]; rfl)
   replace H := bd_ H; obtain ⟨sn, zw, H⟩ := H
   replace H := bd_ H; obtain ⟨cv, pD, H⟩ := H
   have H' := aa_.mk H
   clear H
   obtain ⟨yL, hyL⟩ : ∃ y_ : List Int, y_ = ([0] : List Int) := ⟨_, rfl⟩
   have NyL := aa_.mk hyL
   clear hyL
   go_wp2_with (first | ((with_reducible refine au_ (N := 30) rfl ?_); refine bv_ 30 72 #[.slice A0 l0.length c0, .int .i64 a1, .slice none 0 0, .int .i64 0] ?_; intro gS hgS jd hbox hb; refine k2_ (show aV_ A0 l0.length c0 a1 w jd gS [] 0 from ⟨none, 0, hbox, (oW_), Kd.qt_ _ _ _ _ _⟩) Ws_ ?_; clear HB; intro HI HB; clear hb hbox hgS) | ((with_reducible refine au_ (N := 32) rfl ?_); (try (refine es_ (by rfl) ?_; dsimp only)); refine lu_ (Kd.int .i64) 3 32 ([0] : List Int) [.int .i64 0] (aH_.one (show Kd.M (Kd.int .i64) _ _ _ 0 [.int .i64 0] from rfl) (aH_.none _ _)) ?_; intro xE lR ho16 hb hg_ hnew_; clear hg_ hnew_; rw [← NyL.out] at ho16; refine k3_ (Kd.pY_ ho16 (ao_ (Z2))) (aV_.below (pt_) hb) Ws_ ?_; clear HI HB; intro HOL HI HB; clear hb ho16; obtain ⟨AoL, coL, eoL⟩ := Kd.pW_ HOL.out; subst eoL) | (go_at_call 44; (with_reducible refine (al_.calls o8 gS [] 0 AoL coL yL 0 A0 c0 l0 a1 cv sn w _ ?s1 ?s2 ?s3 ?s4 ?s5 ?s6 ?s7 ?s8 (by rw [NyL.out]; exact hj_ zw.out pD.out)).mono ?_); (case s1 => exact HI.out); (case s2 => exact HB.out); (case s3 => exact (Kd.pV_ HOL.out).2.2); (case s4 => exact (Kd.pV_ HOL.out).2.1); (case s5 => exact ci_ (aV_.own_ne HI.out HOL.out (by decide))); (case s6 => exact Kd.qA_ (Kd.heap_iso _ (Kd.heap_pair (Kd.heap_int _) (Kd.heap_int _))) HR0.out HB.out (aV_.ge HI.out)); (case s7 => exact HC0.out); (case s8 => exact HOL.out); rintro e oD ⟨rfl, hi_, hb, hk_⟩; have n1_ := aa_.mk hb; obtain ⟨z6, z7, hbk_, hge_, hr_⟩ := hi_; have n0_ := aa_.mk hr_; have n2_ := aa_.mk hbk_; have n3_ := aa_.mk hge_; clear HI; clear HB; clear HOL; have z8 := n0_; have HB := n1_; have BKS := n2_; have GES := n3_; clear n0_ n1_ n2_ n3_; clear hb hk_ hr_ hge_ hbk_; have hczS_0 := fq_ BKS.out; have hfzS_0 := a1_ BKS.out 2))
   repeat (go_quiet (fail); try go_wp2_with (fail))
   (try clear hczS_0); (try clear hfzS_0)
   go_loopg [8, 39] o8 (fun kq v8 v39 w' => ∃ (hU : List (S42)) (bS : Int), v39 = .int .i64 bS ∧ aa_ (ay_.l0 kq l0 sn hU cv (cv.length : Int) bS = some (r1, r2, r3)) ∧ aa_ (kq ≤ o8) ∧ aa_ (Kd.R k42 42 w' w.heap.size (fun _ => True) v8 hU) ∧ aa_ (Kd.R (Kd.int .i64) 3 w' w.heap.size (fun _ => True) (.slice z6 cv.length z7) cv) ∧ aa_ (Below w.heap.size w w') ∧ aa_ (w'.heap[gS]? = some (.cells #[.slice A0 l0.length c0, .int .i64 a1, .slice z6 cv.length z7, .int .i64 sn] 72 (0, 0))))
   case atStart => exact ⟨(([] : List (S42))), (0), (Z14), H', ⟨Nat.le_refl _⟩, ⟨Z17⟩, ⟨Z1 z8⟩, ⟨Z2⟩, ⟨BKS.out⟩⟩
   case round =>
    clear H'
    (try clear c12); (try clear fm); (try clear o9); (try clear wB)
    obtain ⟨hU, bS, rfl, HA, HK2, af, hX, HB, BKS⟩ := hrel
    cases gk with
    | zero => exact absurd HA.out (by simp [ay_.l0])
    | succ k2 =>
     have H := HA.out
     clear HA
     simp only [ay_.l0] at H
     replace H := iv_ H; obtain ⟨eQ, H⟩ | ⟨eQ, H⟩ := H
     ·replace H := id_ H; obtain ⟨mm, H⟩ := H
      replace H := id_ H; obtain ⟨dS, H⟩ := H
      replace H := id_ H; obtain ⟨mo, H⟩ := H
      replace H := id_ H; obtain ⟨o0, H⟩ := H
      replace H := ia_ H; obtain ⟨z9, H⟩ := H
      generalize e_ : ((hU ++ [(⟨(ac_ l0 (rd cv bS)).f0, (ac_ l0 (rd cv bS)).f1⟩ : S42)]) : List (S42)) = d4 at H
      have sr := aa_.mk e_.symm; clear e_
      have H' := aa_.mk H
      clear H
      have HY : 0 ≤ (bS : Int) := of_decide_eq_true (Z8)
      have HZ : bS < (cv.length : Int) := of_decide_eq_true (Z8)
      obtain ⟨ad144, e144, hx144_0⟩ := Kd.at_int (Kd.pV_ hX.out).2.2 bS HY HZ
      cases e144
      replace HY := eq_true HY
      replace HZ := eq_true HZ
      have H0 : 0 ≤ ((rd cv bS) : Int) := of_decide_eq_true (Z8)
      have H1 : (rd cv bS) < (l0.length : Int) := of_decide_eq_true (Z8)
      obtain ⟨ad145, e145, pW, pX⟩ := cZ_ HR0.out (rd cv bS) H0 H1
      cases e145
      replace pW := (HB.out.cell (World.block_lt_of_cell? w _ pW)).trans pW
      replace pX := (HB.out.cell (World.block_lt_of_cell? w _ pX)).trans pX
      replace H0 := eq_true H0
      replace H1 := eq_true H1
      go_wp2_with (((with_reducible refine bh_ (b := .append) (xs := #[.tmp 43, .tmp 48]) rfl ?_); (try (refine es_ (by rfl) ?_; dsimp only)); at_builtin; refine e4_ (w0 := w) w.heap.size (.tmp 43) (.tmp 48) u8 hU (⟨(ac_ l0 (rd cv bS)).f0, (ac_ l0 (rd cv bS)).f1⟩ : S42) [.int .i64 ((ac_ l0 (rd cv bS)).f0), .int .i64 ((ac_ l0 (rd cv bS)).f1)] (fun _ => True) rfl rfl ?aP ?aF ?aO ?aB ?aS ?aL ?_; (case aP => exact cy_ _ _ _ (⟨(ac_ l0 (rd cv bS)).f0, (ac_ l0 (rd cv bS)).f1⟩ : S42)); (case aB => exact Z2); (case aF => exact (fun _ _ => trivial)); (case aO => exact (Z1 af)); (case aS => exact (ao_ (Z2))); (case aL => exact Z91 z9); intro Cu cP ho hb hg hat; rw [← sr.out] at ho; have nb_ := aa_.mk (bg_ BKS.out hg (Kd.qb_ af.out BKS.out (by decide))); refine k3_ (Kd.qe_ (Z1 hX) (Kd.qd_ (Z1 af)) (by decide) hg) (hb) (ho) ?_; clear hX HB af; intro hX HB n9; clear BKS; have BKS := nb_; clear nb_; clear ho hb hg hat))
      repeat (go_quiet (fail); try go_wp2_with (fail))
      go_roundg k2
      case measure => have := zS.out; have := HK2.out; omega
      case rel => exact ⟨(d4), (wrap64 (bS + 1)), (Z14), H', ⟨fc_ zS⟩, ⟨Z1 n9⟩, ⟨Z1 hX⟩, ⟨Z2⟩, ⟨BKS.out⟩⟩
     obtain ⟨rfl, rfl, rfl⟩ := sq_ H; clear H
     have hczS_1 := fw_ BKS.out
     have hfzS_1 := a1_ BKS.out 3
     go_wp2
     repeat (go_quiet (fail); try go_wp2)
     go_ret3
     exact ⟨_, Z9, Z1 af, Z2⟩
def aS_.l0 : Nat → List (S42) → Int → Int → Int → Option (Int)
 | 0, _, _, _, _ => none
 | k + 1, x0, x1, x5, x6 => if x6 < (x0.length : Int) then (if 0 ≤ (wrap64 (x6 - 1)) then (if (wrap64 (x6 - 1)) < (x0.length : Int) then (if 0 ≤ x6 then ((bB_.f ((ac_ x0 (wrap64 (x6 - 1))).f0) ((ac_ x0 (wrap64 (x6 - 1))).f1) ((ac_ x0 x6).f0) ((ac_ x0 x6).f1) x1).bind fun xH => (aS_.l0 k x0 x1 (wrap64 (x5 + xH)) (wrap64 (x6 + 1)))) else (none)) else (none)) else (none)) else (some x5)
def aS_.f (k : Nat) (l0 : List (S42)) (a1 : Int) : Option (Int) := aS_.l0 k l0 a1 0 1
theorem aS_.mono_l : ∀ k, (∀ y0 y1 y2 y3, LeO (aS_.l0 k y0 y1 y2 y3) (aS_.l0 (k + 1) y0 y1 y2 y3))
 | 0 => fun _ _ _ _ r h => by simp [aS_.l0] at h
 | k + 1 => by
  have ih0 := aS_.mono_l k
  ·intro y0 y1 y2 y3
   unfold aS_.l0
   exact gB_
theorem aS_.mono : ∀ a0 a1 k, LeO (aS_.f k a0 a1) (aS_.f (k + 1) a0 a1) := by
 intro a0 a1 k
 have ih0 := aS_.mono_l k
 unfold aS_.f
 exact gB_
def aS_.T5 : Bool × List (List Nat × List Nat) := (true, [([], []), ([], []), ([], []), ([2], [2]), ([1, 3], [1, 3]), ([4], [4]), ([], []), ([], []), ([6, 7], [6, 7]), ([8], [8]), ([], []), ([5, 9, 10], [5, 9, 10]), ([0, 11], [0, 11]), ([12, 11, 0, 1, 2, 3, 4, 5, 6, 7, 8, 9, 10, 11, 12], [0, 12])])
def aS_.B5 : List Nat := [0, 0, 0, 4, 14, 30, 0, 0, 192, 448, 0, 2046, 4095, 8191]
theorem aS_.tab5 : bI_ .any (dd_ Tryz.f45 5) = aS_.T5 := by kernel_rfl
theorem aS_.bits5 : bQ_ aS_.T5.2 aS_.B5 = true := by kernel_rfl
set_option maxHeartbeats 8000000 in
set_option maxRecDepth 100000 in
theorem aS_.calls (k : Nat) (A0 : Option Addr) (c0 : Nat) (l0 : List (S42)) (a1 : Int) (r : Int) (w : World) (hr0 : Kd.C k42 w A0 l0.length l0) (hc0 : l0.length ≤ c0) (h : aS_.f k l0 a1 = some r) :
  Calls Tryz.prog 45 #[.slice A0 l0.length c0, .int .i64 a1] w fun e w' => e = .returned (.int .i64 r) ∧ Below w.heap.size w w' := by
 have hu42 := Tryz.underlying42
 have HR0 := aa_.mk hr0
 have HC0 := aa_.mk hc0
 clear hr0 hc0
 have HB := aa_.mk (Below.refl w.heap.size w)
 have H := h; unfold aS_.f at H
 clear h
 have H' := aa_.mk H
 clear H
 go_enter Tryz.func45, Tryz.ntmps45
 go_wp2
 go_loopg [5, 6] k (fun kq v5 v6 w' => ∃ (aE : Int) (br : Int), v5 = .int .i64 aE ∧ v6 = .int .i64 br ∧ aa_ (aS_.l0 kq l0 a1 aE br = some r) ∧ aa_ (kq ≤ k) ∧ aa_ (Below w.heap.size w w'))
 case atStart => exact ⟨(0), (1), (Z14), (Z14), H', ⟨Nat.le_refl _⟩, ⟨Z2⟩⟩
 case round =>
  clear H'
  obtain ⟨aE, br, rfl, rfl, HA, HK1, HB⟩ := hrel
  cases gk with
  | zero => exact absurd HA.out (by simp [aS_.l0])
  | succ k1 =>
   have H := HA.out
   clear HA
   simp only [aS_.l0] at H
   replace H := iv_ H; obtain ⟨cU, H⟩ | ⟨cU, H⟩ := H
   ·obtain ⟨oL, hji4⟩ : ∃ j_ : Int, (wrap64 (br - 1)) = j_ := ⟨_, rfl⟩
    (first | rw [hji4] at H | simp only [hji4] at H)
    have hji4w : (IntKind.i64.wrap (br - 1)) = oL := (bA_ _).trans hji4
    replace H := id_ H; obtain ⟨dp, H⟩ := H
    replace H := id_ H; obtain ⟨cC, H⟩ := H
    replace H := id_ H; obtain ⟨dJ, H⟩ := H
    replace H := bd_ H; obtain ⟨xH, A8, H⟩ := H
    have H' := aa_.mk H
    clear H
    try go_wp2
    refine k1_ (av_ HB.out) ?_
    clear HB
    intro HB
    have H2 : 0 ≤ ((oL) : Int) := of_decide_eq_true (Z8)
    have H3 : (oL) < (l0.length : Int) := of_decide_eq_true (Z8)
    obtain ⟨oa, e623, lb, lc⟩ := cZ_ HR0.out (oL) H2 H3
    have hw623_1 := lc
    have hw623_0 := lb
    cases e623
    replace lb := (HB.out.cell (World.block_lt_of_cell? w _ lb)).trans lb
    replace lc := (HB.out.cell (World.block_lt_of_cell? w _ lc)).trans lc
    replace H2 := eq_true H2
    replace H3 := eq_true H3
    have H4 : 0 ≤ (br : Int) := of_decide_eq_true (Z8)
    have H5 : br < (l0.length : Int) := of_decide_eq_true (Z8)
    obtain ⟨ad624, e624, ld, lf⟩ := cZ_ HR0.out br H4 H5
    have hw624_1 := lf
    have hw624_0 := ld
    obtain rfl : oa = ad624 := (by injection e624)
    replace ld := (HB.out.cell (World.block_lt_of_cell? w _ ld)).trans ld
    replace lf := (HB.out.cell (World.block_lt_of_cell? w _ lf)).trans lf
    replace H4 := eq_true H4
    replace H5 := eq_true H5
    refine b2_ (n := 14) (S := fun w' => w'.cell? (oa.add (((oL)).toNat * 2)) = some (.int .i64 ((ac_ l0 (oL)).f0)) ∧ w'.cell? ⟨(oa.add (((oL)).toNat * 2)).block, (oa.add (((oL)).toNat * 2)).off + 1, none⟩ = some (.int .i64 ((ac_ l0 (oL)).f1)) ∧ w'.cell? (oa.add ((br).toNat * 2)) = some (.int .i64 ((ac_ l0 br).f0)) ∧ w'.cell? ⟨(oa.add ((br).toNat * 2)).block, (oa.add ((br).toNat * 2)).off + 1, none⟩ = some (.int .i64 ((ac_ l0 br).f1))) (ds := []) (M_ 0 14) (by kernel_rfl) rfl rfl ⟨((HB.out.cell (World.block_lt_of_cell? w _ hw623_0)).trans hw623_0), ((HB.out.cell (World.block_lt_of_cell? w _ hw623_1)).trans hw623_1), ((HB.out.cell (World.block_lt_of_cell? w _ hw624_0)).trans hw624_0), ((HB.out.cell (World.block_lt_of_cell? w _ hw624_1)).trans hw624_1)⟩ (fun hHeld => ?_); refine bz_ aS_.tab5 aS_.bits5 (fun HT_ HW_ => ?_)
    generalize wr.drew = w9 at HB lb lc ld lf hHeld ⊢
    refine pu_ 0 13 (M_ 1 13) ?_
    refine pu_ 1 14 (M_ 2 12) ?_
    refine pu_ 2 15 (M_ 3 11) ?_
    refine pu_ 3 16 (M_ 4 10) ?_
    refine pu_ 4 17 (M_ 5 9) ?_
    refine pu_ 6 19 (N_ 14 95) ?_
    refine pu_ 7 20 (N_ 14 223) ?_
    refine pu_ 8 21 (N_ 14 479) ?_
    refine pu_ 10 23 (N_ 14 1503) ?_
    refine eF_ 5 18 (N_ 14 1535) hHeld ?_
    refine eF_ 9 22 (M_ 11 3) hHeld ?_
    refine on_ 11 (some 24) (M_ 12 2) (fun K hK => ?_)
    refine cs_ Tryz.func78 (by kernel_rfl) rfl #[.agg #[.int .i64 ((ac_ l0 (oL)).f0), .int .i64 ((ac_ l0 (oL)).f1)], .agg #[.int .i64 ((ac_ l0 br).f0), .int .i64 ((ac_ l0 br).f1)], .int .i64 a1] (by rfl) rfl rfl (by (try simp only [List.map_toArray, List.map_cons, List.map_nil]); first | done | (simp only [hji4]; rfl) | rfl | (simp only [List.length_drop, List.length_take]; rfl)) ?_
    with_reducible refine (bB_.calls ((ac_ l0 (oL)).f0) ((ac_ l0 (oL)).f1) ((ac_ l0 br).f0) ((ac_ l0 br).f1) a1 xH _ A8.out).mono ?_
    rintro e jc ⟨rfl, hb⟩
    refine ⟨_, rfl, ?_⟩
    refine k1_ Ws_ ?_
    clear HB
    intro HB
    (try clear hb)
    refine hK.out _ _ ⟨((HB.out.cell (World.block_lt_of_cell? w _ hw623_0)).trans hw623_0), ((HB.out.cell (World.block_lt_of_cell? w _ hw623_1)).trans hw623_1), ((HB.out.cell (World.block_lt_of_cell? w _ hw624_0)).trans hw624_0), ((HB.out.cell (World.block_lt_of_cell? w _ hw624_1)).trans hw624_1)⟩ (fun hHeld => ?_)
    clear hK K
    refine nm_ 24 ?_
    refine pu_ 12 25 (M_ 13 1) ?_
    refine pu_ 13 5 (M_ 14 0) ?_
    refine cw_ (bS_ HT_.out (by kernel_rfl)) ?_
    try go_wp2
    go_roundg k1
    case measure => have := HK1.out; omega
    case rel => exact ⟨(wrap64 (aE + xH)), (wrap64 (br + 1)), (Z14), (Z14), H', ⟨Z91 HK1⟩, ⟨Z2⟩⟩
   obtain rfl := Option.some.inj H
   go_wp2
   go_ret
   exact ⟨Z9, Z2⟩
def bC_.f (k : Nat) (l0 : List (S42)) (a1 : Int) : Option (Int × Bool) := (ap_.f k l0).bind fun Aa => (if Aa = true then ((co_.f a1).bind fun Ab => (if Ab = true then ((aS_.f k l0 a1).bind fun xI => (some (xI, true))) else (some (0, false)))) else (some (0, false)))
theorem bC_.mono : ∀ a0 a1 k, LeO (bC_.f k a0 a1) (bC_.f (k + 1) a0 a1) := by
 intro a0 a1 k
 unfold bC_.f
 exact gB_
set_option maxHeartbeats 8000000 in
set_option maxRecDepth 100000 in
theorem bC_.calls (k : Nat) (A0 : Option Addr) (c0 : Nat) (l0 : List (S42)) (a1 : Int) (r1 : Int) (r2 : Bool) (w : World) (hr0 : Kd.C k42 w A0 l0.length l0) (hc0 : l0.length ≤ c0) (h : bC_.f k l0 a1 = some (r1, r2)) :
  Calls Tryz.prog 17 #[.slice A0 l0.length c0, .int .i64 a1] w fun e w' => e = .returned (.tuple #[.int .i64 r1, .bool r2]) ∧ Below w.heap.size w w' := by
 have HR0 := aa_.mk hr0
 have HC0 := aa_.mk hc0
 clear hr0 hc0
 have HB := aa_.mk (Below.refl w.heap.size w)
 have H := h; unfold bC_.f at H
 clear h
 replace H := bd_ H; obtain ⟨Aa, A3, H⟩ := H
 replace H := it_ H; obtain ⟨rfl, H⟩ | ⟨rfl, H⟩ := H
 ·replace H := bd_ H; obtain ⟨Ab, A5, H⟩ := H
  replace H := it_ H; obtain ⟨rfl, H⟩ | ⟨rfl, H⟩ := H
  ·replace H := bd_ H; obtain ⟨xI, A7, H⟩ := H
   replace H : (some (xI, true)) = some (r1, r2) := H
   obtain ⟨rfl, rfl⟩ := sp_ H; clear H
   go_enter Tryz.func17, Tryz.ntmps17
   go_wp2_with (first | ((with_reducible refine ae_ (f := 13) rfl ?_); refine gl_ 7 Tryz.func13 #[.slice A0 l0.length c0] ?_; (with_reducible refine (ap_.calls k _ _ l0 true _ ?_ ?_ A3.out).mono ?_); exact (Z15 HR0); exact HC0.out; rintro e w8 ⟨rfl, hb⟩; refine ⟨_, rfl, ?_⟩; refine k1_ Ws_ ?_; clear HB; intro HB; (try clear hb)) | (go_at_call 41; (with_reducible refine (co_.calls a1 true _ A5.out).mono ?_); rintro e w' ⟨rfl, ⟨nd, rfl⟩⟩) | ((with_reducible refine ae_ (f := 45) rfl ?_); refine gl_ 16 Tryz.func45 #[.slice A0 l0.length c0, .int .i64 a1] ?_; (with_reducible refine (aS_.calls k _ _ l0 a1 xI _ ?_ ?_ A7.out).mono ?_); exact (by repeat (first | exact (Kd.p7_ HR0.out (Z2)) | (with_reducible refine Kd.qg_ ?_ _) | (with_reducible refine Kd.qn_ ?_ _) | (with_reducible refine Kd.qo_ ?_))); exact HC0.out; rintro e w9 ⟨rfl, hb⟩; refine ⟨_, rfl, ?_⟩; refine k1_ Ws_ ?_; clear HB; intro HB; (try clear hb)))
   go_ret2
   exact ⟨Z9, Z2⟩
  obtain ⟨rfl, rfl⟩ := sp_ H; clear H
  go_enter Tryz.func17, Tryz.ntmps17
  go_wp2_with (first | ((with_reducible refine ae_ (f := 13) rfl ?_); refine gl_ 7 Tryz.func13 #[.slice A0 l0.length c0] ?_; (with_reducible refine (ap_.calls k _ _ l0 true _ ?_ ?_ A3.out).mono ?_); exact (Z15 HR0); exact HC0.out; rintro e jc ⟨rfl, hb⟩; refine ⟨_, rfl, ?_⟩; refine k1_ Ws_ ?_; clear HB; intro HB; (try clear hb)) | (go_at_call 41; (with_reducible refine (co_.calls a1 false _ A5.out).mono ?_); rintro e w' ⟨rfl, ⟨nd, rfl⟩⟩))
  go_ret2
  exact ⟨Z9, Z2⟩
 obtain ⟨rfl, rfl⟩ := sp_ H; clear H
 go_enter Tryz.func17, Tryz.ntmps17
 go_wp2_with (((with_reducible refine ae_ (f := 13) rfl ?_); refine gl_ 7 Tryz.func13 #[.slice A0 l0.length c0] ?_; (with_reducible refine (ap_.calls k _ _ l0 false _ ?_ ?_ A3.out).mono ?_); exact (Z15 HR0); exact HC0.out; rintro e nI ⟨rfl, hb⟩; refine ⟨_, rfl, ?_⟩; refine k1_ Ws_ ?_; clear HB; intro HB; (try clear hb)))
 go_ret2
 exact ⟨Z9, Z2⟩
def da_.f (a0 : Int) : Option (Bool) := if a0 ≥ 1 then (some (decide (a0 ≤ 5))) else (some false)
set_option maxHeartbeats 8000000 in
set_option maxRecDepth 100000 in
theorem da_.calls (a0 : Int) (r : Bool) (w : World) (h : da_.f a0 = some r) :
  Calls Tryz.prog 46 #[.int .i64 a0] w fun e w' => e = .returned (.bool r) ∧ bH_ w w' := by
 have H := h; unfold da_.f at H
 clear h
 replace H := iw_ H; obtain ⟨c2, H⟩ | ⟨c2, H⟩ := H
 ·have dB : decide (1 ≤ a0) = true := decide_eq_true c2
  clear c2
  obtain rfl := Option.some.inj H
  go_enter Tryz.func46, Tryz.ntmps46
  go_wp2
  go_ret
  exact ⟨Z14, Z41⟩
 have dB : decide (1 ≤ a0) = false := decide_eq_false c2
 clear c2
 obtain rfl := Option.some.inj H
 go_enter Tryz.func46, Tryz.ntmps46
 go_wp2
 go_ret
 exact ⟨Z14, Z41⟩
end Go.Proofs.YtcpliaahkcbinaaGreatDoor.PFnStrokes
