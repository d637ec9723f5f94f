import Derived.Test.YtcpliaahkcbinaaGreatDoorPFnStrokesx0
import Derived.Test.YtcpliaahkcbinaaGreatDoorPFnStrokesx2
import Derived.Test.YtcpliaahkcbinaaGreatDoorPFnStrokesx1
namespace Go.Proofs.YtcpliaahkcbinaaGreatDoor.PFnStrokes
open Go.RowKit Go.Proofs.YtcpliaahkcbinaaGreatDoorW.PrintWords Go.Proofs.YtcpliaahkcbinaaGreatDoorW.PrintLast Go.Proofs.YtcpliaahkcbinaaGreatDoorW.PrintMore
attribute [local go_sem] dS_ dV_ eo_ em_ dw_ dx_ dX_ dU_
set_option linter.unusedVariables false
set_option linter.unusedSimpArgs false
theorem gz_ {p : Prop} (h : p := by repeat' first | (with_reducible first | apply ih0 | apply ih0 | apply ih1 | apply ih1 | apply ih2 | apply ih2 | apply ap_.mono | apply ap_.mono | exact LeO.refl _ | exact LeO.none _ | refine LeO.ite ?_ ?_ | refine LeO.bind ?_ (fun _ => ?_)) | exact LeO.none _ | refine LeO.ite ?_ ?_ | refine LeO.bind ?_ (fun _ => ?_)) : p := h
def cx_.f (a0 : Int) (a1 : Int) (a2 : Int) (l3 : List (S42)) : Option (Bool) := if (Int.tmod a2 2) = 0 then (if 0 ≤ a0 then (if a0 < (l3.length : Int) then (if 0 ≤ a1 then (if a1 < (l3.length : Int) then (some (decide (((ac_ l3 a0).f0) < ((ac_ l3 a1).f0)))) else (none)) else (none)) else (none)) else (none)) else (if 0 ≤ a0 then (if a0 < (l3.length : Int) then (if 0 ≤ a1 then (if a1 < (l3.length : Int) then (some (decide (((ac_ l3 a0).f0) > ((ac_ l3 a1).f0)))) else (none)) else (none)) else (none)) else (none))
set_option maxHeartbeats 8000000 in
set_option maxRecDepth 100000 in
theorem cx_.calls (a0 : Int) (a1 : Int) (p2 : Nat) (a2 : Int) (p3 : Nat) (A3 : Option Addr) (c3 : Nat) (l3 : List (S42)) (r : Bool) (w : World) (hr3 : Kd.C k42 w A3 l3.length l3) (hc3 : l3.length ≤ c3) (hb2 : w.heap[p2]? = some (.cells #[.int .i64 a2] 3 (0, 0))) (hb3 : w.heap[p3]? = some (.cells #[.slice A3 l3.length c3] 26 (0, 0))) (hn2_3 : p2 ≠ p3) (hn3_2 : p3 ≠ p2) (h : cx_.f a0 a1 a2 l3 = some r) :
  Calls Tryz.prog 35 #[.int .i64 a0, .int .i64 a1, .pointer (some ⟨p2, 0, none⟩), .pointer (some ⟨p3, 0, none⟩)] w fun e w' => e = .returned (.bool r) ∧ bH_ w w' := by
 have hu3 := Tryz.underlying3
 have hu26 := Tryz.underlying26
 have HR3 := aa_.mk hr3
 have HC3 := aa_.mk hc3
 clear hr3 hc3
 have Dz := aa_.mk hb2
 clear hb2
 have DA := aa_.mk hb3
 clear hb3
 have oX := aa_.mk hn2_3
 clear hn2_3
 have oY := aa_.mk hn3_2
 clear hn3_2
 have H := h; unfold cx_.f at H
 clear h
 replace H := ic_ H; obtain ⟨dp, uQ, H⟩ | ⟨dp, uQ, c5, H⟩ := H
 ·replace H := id_ H; obtain ⟨cC, H⟩ := H
  replace H := id_ H; obtain ⟨dJ, H⟩ := H
  replace H := id_ H; obtain ⟨gN, H⟩ := H
  replace H := id_ H; obtain ⟨gP, H⟩ := H
  obtain rfl := Option.some.inj H
  have hnb10 := oX.out
  have hnc10 := oY.out
  obtain ⟨fj, fk⟩ := h6_ (w := w) Dz.out
  obtain ⟨eC, eD⟩ := h6_ (w := w) DA.out
  obtain ⟨ad440, e440, hx440_0, hx440_1, GJ, GK⟩ := cg_ HR3.out a0
  cases e440
  obtain ⟨ad441, e441, hx441_0, hx441_1, GL, GM⟩ := cg_ HR3.out a1
  obtain rfl : ad440 = ad441 := (by injection e441)
  go_enter Tryz.func35, Tryz.ntmps35
  go_wp2
  repeat (go_quiet (fail); try go_wp2)
  go_ret
  exact ⟨Z14, Z41⟩
 replace H := id_ H; obtain ⟨ew, H⟩ := H
 replace H := id_ H; obtain ⟨jD, H⟩ := H
 replace H := id_ H; obtain ⟨dR, H⟩ := H
 replace H := id_ H; obtain ⟨fQ, H⟩ := H
 obtain rfl := Option.some.inj H
 have hnb17 := oX.out
 have hnc17 := oY.out
 obtain ⟨hcz18_0, hfz18_0⟩ := h6_ (w := w) Dz.out
 obtain ⟨po, pp⟩ := h6_ (w := w) DA.out
 obtain ⟨ad442, e442, hx442_0, hx442_1, GN, GO⟩ := cg_ HR3.out a0
 cases e442
 obtain ⟨ad443, e443, hx443_0, hx443_1, GP, GQ⟩ := cg_ HR3.out a1
 obtain rfl : ad442 = ad443 := (by injection e443)
 go_enter Tryz.func35, Tryz.ntmps35
 go_wp2
 repeat (go_quiet (fail); try go_wp2)
 go_ret
 exact ⟨Z14, Z41⟩
instance mp_ : Inhabited S42 := ⟨z42⟩
def bx_ (n : Int) (a b : S42) : Bool := if (Int.tmod n 2) = 0 then decide (a.f0 < b.f0) else decide (a.f0 > b.f0)
theorem bx_.swo (n : Int) : Go.Sort.SWO (bx_ n) := by
 unfold bx_
 by_cases hn : (Int.tmod n 2) = 0
 ·simp only [if_pos hn]
  constructor
  ·intro x; exact decide_eq_false (by omega)
  ·intro x y z h1 h2; have := of_decide_eq_true h1; have := of_decide_eq_true h2; exact decide_eq_true (by omega)
  intro x y z h1 h2; have := of_decide_eq_false h1; have := of_decide_eq_false h2; exact decide_eq_false (by omega)
 simp only [if_neg hn]
 constructor
 ·intro x; exact decide_eq_false (by omega)
 ·intro x y z h1 h2; have := of_decide_eq_true h1; have := of_decide_eq_true h2; exact decide_eq_true (by omega)
 intro x y z h1 h2; have := of_decide_eq_false h1; have := of_decide_eq_false h2; exact decide_eq_false (by omega)
def bW_.f (n : Int) (l : List S42) : Option (List S42) := if l.length ≤ 8796093022208 ∧ ∀ a ∈ l, ∀ b ∈ l, bx_ n a b = false → bx_ n b a = false → a.f0 = b.f0 ∧ a.f1 = b.f1 then some (l.mergeSort (fun a b => !bx_ n b a)) else none
theorem bW_.uniq {n : Int} {l r ys : List S42} (h : bW_.f n l = some r) (hp : ys.Perm l) (hs : ys.Pairwise (fun a b => bx_ n b a = false)) : ys = r := by
 unfold bW_.f at h
 split at h
 ·rename_i hc
  obtain rfl := Option.some.inj h
  have hO := bx_.swo n
  have hm := List.mergeSort_perm l (fun a b => !bx_ n b a)
  have hq : (l.mergeSort (fun a b => !bx_ n b a)).Pairwise (fun a b => bx_ n b a = false) := by
   have := List.pairwise_mergeSort (le := fun a b => !bx_ n b a) (by
    intro a b c h1 h2
    simp only [Bool.not_eq_true'] at *
    exact hO.ntrans c b a h2 h1) (by
    intro a b
    simp only [Bool.or_eq_true, Bool.not_eq_true']
    by_cases h : bx_ n b a = true
    ·right
     cases h2 : bx_ n a b with
     | false => rfl
     | true => have := hO.trans a b a h2 h; rw [hO.irrefl] at this; cases this
    left; exact Bool.eq_false_iff.2 h) l
   exact this.imp (fun h => by simpa using h)
  refine dR_ (fun a b => bx_ n b a = false) ys _ (hp.trans hm.symm) hs hq (fun a ha b hb h1 h2 => ?_)
  have := hc.2 a (hp.mem_iff.1 ha) b (hp.mem_iff.1 hb) h2 h1
  obtain ⟨a0, a1⟩ := a
  obtain ⟨b0, b1⟩ := b
  simp only at this
  obtain ⟨rfl, rfl⟩ := this
  rfl
 cases h
theorem bW_.short {n : Int} {l r : List S42} (h : bW_.f n l = some r) : l.length < 1152921504606846976 := by
 unfold bW_.f at h
 split at h
 ·omega
 cases h
theorem cx_.lt (n : Int) (i j : Nat) (l : List S42) (hi : i < l.length) (hj : j < l.length) : cx_.f i j n l = some (bx_ n l[i]! l[j]!) := by
 have e1 : ac_ l (i : Int) = l[i]! := by unfold ac_; rw [Int.toNat_natCast, List.getD_eq_getElem?_getD, List.getElem?_eq_getElem hi, getElem!_pos l i hi]; rfl
 have e2 : ac_ l (j : Int) = l[j]! := by unfold ac_; rw [Int.toNat_natCast, List.getD_eq_getElem?_getD, List.getElem?_eq_getElem hj, getElem!_pos l j hj]; rfl
 unfold cx_.f bx_
 by_cases hn : (Int.tmod n 2) = 0
 ·rw [if_pos hn, if_pos hn, if_pos (by omega), if_pos (by omega), if_pos (by omega), if_pos (by omega), e1, e2]
 rw [if_neg hn, if_neg hn, if_pos (by omega), if_pos (by omega), if_pos (by omega), if_pos (by omega), e1, e2]
noncomputable def an_.ie : TypeInfo := (Tryz.prog.info? 42).get (by kernel_rfl)
noncomputable def an_.it : TypeInfo := (Tryz.prog.info? 26).get (by kernel_rfl)
set_option maxHeartbeats 2000000 in
theorem an_.sorts (n : Int) (xs zs : List S42) (A : Option Addr) (c : Nat) (gI gR base : Nat) (ok : Nat → Prop) (W : World) (hz : bW_.f n xs = some zs) (hR : Kd.R k42 42 W base ok (.slice A xs.length c) xs) (hkI : ∀ k, ok k → k ≠ gI) (hkR : ∀ k, ok k → k ≠ gR) (hne : gI ≠ gR)
  (hbI : W.heap[gI]? = some (.cells #[.int .i64 n] 3 (0, 0))) (hbx : W.heap[gR]? = some (.cells #[.slice A xs.length c] 26 (0, 0))) :
  Calls Tryz.prog 34 #[.iface 26 (.slice A xs.length c), .func (.func 35) #[] #[.pointer (some ⟨gI, 0, none⟩), .pointer (some ⟨gR, 0, none⟩)]] W fun e' w' => e' = .returned (.tuple #[]) ∧
   xs.length = zs.length ∧ Kd.R k42 42 w' base ok (.slice A zs.length c) zs ∧ w'.heap[gI]? = some (.cells #[.int .i64 n] 3 (0, 0)) ∧ w'.heap[gR]? = some (.cells #[.slice A zs.length c] 26 (0, 0)) ∧ W.grownBy w' (Value.ownBlock (.slice A xs.length c)) := by
 have hgI : gI < W.heap.size := (Array.getElem?_eq_some_iff.1 hbI).1
 have hgb : gR < W.heap.size := (Array.getElem?_eq_some_iff.1 hbx).1
 have hnI : some gI ≠ Value.ownBlock (.slice A xs.length c) := fun e => hkI gI (hR.1 gI e.symm) rfl
 have hnR : some gR ≠ Value.ownBlock (.slice A xs.length c) := fun e => hkR gR (hR.1 gR e.symm) rfl
 have hK : ∀ n, Lib.swapperK n an_.ie 25 = if n = 0 then 1 else if n = 1 then 2 else 9 := by
  intro n
  have a : an_.ie.hasPointers = false := by kernel_rfl
  have b : an_.ie.bytes = 16 := by kernel_rfl
  rcases Nat.lt_or_ge n 2 with h | h
  ·rcases Nat.eq_zero_or_pos n with h0 | h0
   ·subst h0; simp [Lib.swapperK]
   obtain rfl : n = 1 := by omega
   simp [Lib.swapperK]
  have c : (n == 0) = false := by simp; omega
  have d : (n == 1) = false := by simp; omega
  rw [if_neg (by omega), if_neg (by omega)]
  simp [Lib.swapperK, a, b, c, d]
 have hf : ∀ n, Tryz.prog.funcs.findIdx? (·.name == "internal/reflectlite" ++ ".Swapper$" ++ toString (Lib.swapperK n an_.ie 25)) = some (if n = 0 then 91 else if n = 1 then 92 else 99) := by
  intro n
  rw [hK]
  by_cases h0 : n = 0
  ·rw [if_pos h0, if_pos h0]; kernel_rfl
  rw [if_neg h0, if_neg h0]
  by_cases h1 : n = 1
  ·rw [if_pos h1, if_pos h1]; kernel_rfl
  rw [if_neg h1, if_neg h1]; kernel_rfl
 refine (gh_ Tryz.laysGt8 26 42 an_.it an_.ie (by kernel_rfl) (by kernel_rfl) (by kernel_rfl) (by kernel_rfl) 25 (fun _ => by kernel_rfl) k42 (fun x => [.int .i64 x.f0, .int .i64 x.f1]) (fun w base ok x cs => by show k42.M w base ok x cs ↔ _; exact ⟨ep_, fun h => h ▸ cy_ _ _ _ _⟩) (fun _ => rfl) (by kernel_rfl) (fun _ => by kernel_rfl) (bx_ n) (bx_.swo n) 35 #[.pointer (some ⟨gI, 0, none⟩), .pointer (some ⟨gR, 0, none⟩)]
  (enters_of Tryz.func35 (by kernel_rfl) rfl) false _ hf (fun n h2 args W => by
   rw [if_neg (by omega), if_neg (by omega)]
   exact run_callFunc_extern Tryz.func99 (by kernel_rfl) (by kernel_rfl) (by kernel_rfl) (e := Extern.ReflectliteSwapper.swap false) (by kernel_rfl) args W) A c xs base ok W (bW_.short hz) hR ?_).mono ?_
 ·intro W' ys hl hC hg i j hi hj
  have hbI' : W'.heap[gI]? = some (.cells #[.int .i64 n] 3 (0, 0)) := by rw [hg.block gI hgI hnI, hbI]
  have hb' : W'.heap[gR]? = some (.cells #[.slice A ys.length c] 26 (0, 0)) := by rw [hg.block gR hgb hnR, hbx, hl]
  have hc : xs.length ≤ c := (Kd.pV_ hR).2.1
  have := cx_.calls i j gI n gR A c ys (bx_ n ys[i]! ys[j]!) W' (by rw [hl]; exact hC) (by omega) hbI' hb' hne (Ne.symm hne) (cx_.lt n i j ys (by omega) (by omega))
  exact this.mono fun e w h => ⟨h.1, h.2.below⟩
 rintro e' w' ⟨he, ys, hp, hs, ho, hg⟩
 obtain rfl := bW_.uniq hz hp hs
 have hl := hp.length_eq
 rw [← hl] at ho
 exact ⟨he, hl.symm, ho, by rw [hg.block gI hgI hnI, hbI], by rw [hg.block gR hgb hnR, hbx, hl], hg⟩
mutual
def an_.l0 : Nat → List (S42) → List Int → List (S42) → Int → Int → Option ((List (S42)) × Bool)
 | 0, _, _, _, _, _ => none
 | k + 1, x0, x4, x17, x18, x19 => if x19 < x18 then (if 0 ≤ x19 then (if x19 < (x17.length : Int) then (if x4.length < 17592186044416 then (an_.l0 k x0 (x4 ++ [(ac_ x17 x19).f1]) x17 x18 (wrap64 (x19 + 1))) else (none)) else (none)) else (none)) else ((bD_.f x4).bind fun cY => (an_.l1 k x0 (([] : List (S42))) cY (cY.length : Int) 0))
def an_.l1 : Nat → List (S42) → List (S42) → List Int → Int → Int → Option ((List (S42)) × Bool)
 | 0, _, _, _, _, _ => none
 | k + 1, x0, x7, x32, x33, x34 => if x34 < x33 then (if 0 ≤ x34 then (if x34 < (x32.length : Int) then (an_.l2 k x0 x7 x34 (rd x32 x34) (([] : List (S42))) x32 x33 x34 x0 (x0.length : Int) 0) else (none)) else (none)) else (some (x7, true))
def an_.l2 : Nat → List (S42) → List (S42) → Int → Int → List (S42) → List Int → Int → Int → List (S42) → Int → Int → Option ((List (S42)) × Bool)
 | 0, _, _, _, _, _, _, _, _, _, _, _ => none
 | k + 1, x0, x7, x8, x9, x10, x32, x33, x34, x40, x41, x42 => if x42 < x41 then (if 0 ≤ x42 then (if x42 < (x40.length : Int) then (if ((ac_ x40 x42).f1) = x9 then (if x10.length < 8796093022208 then (an_.l2 k x0 x7 x8 x9 (x10 ++ [(⟨(ac_ x40 x42).f0, (ac_ x40 x42).f1⟩ : S42)]) x32 x33 x34 x40 x41 (wrap64 (x42 + 1))) else (none)) else (an_.l2 k x0 x7 x8 x9 x10 x32 x33 x34 x40 x41 (wrap64 (x42 + 1)))) else (none)) else (none)) else ((bW_.f x8 x10).bind fun nP => (if x7.length + nP.length < 8796093022208 then (an_.l1 k x0 (x7 ++ nP) x32 x33 (wrap64 (x34 + 1))) else (none)))
end
def an_.f (k : Nat) (l0 : List (S42)) : Option ((List (S42)) × Bool) := (ap_.f k l0).bind fun rj => (if rj = true then (an_.l0 k l0 (([] : List Int)) l0 (l0.length : Int) 0) else (some (([] : List (S42)), false)))
theorem an_.mono_l : ∀ k, (∀ y0 y1 y2 y3 y4, LeO (an_.l0 k y0 y1 y2 y3 y4) (an_.l0 (k + 1) y0 y1 y2 y3 y4)) ∧ (∀ y0 y1 y2 y3 y4, LeO (an_.l1 k y0 y1 y2 y3 y4) (an_.l1 (k + 1) y0 y1 y2 y3 y4)) ∧ (∀ y0 y1 y2 y3 y4 y5 y6 y7 y8 y9 uR, LeO (an_.l2 k y0 y1 y2 y3 y4 y5 y6 y7 y8 y9 uR) (an_.l2 (k + 1) y0 y1 y2 y3 y4 y5 y6 y7 y8 y9 uR))
 | 0 => ⟨fun _ _ _ _ _ r h => by simp [an_.l0] at h, fun _ _ _ _ _ r h => by simp [an_.l1] at h, fun _ _ _ _ _ _ _ _ _ _ _ r h => by simp [an_.l2] at h⟩
 | k + 1 => by
  obtain ⟨ih0, ih1, ih2⟩ := an_.mono_l k
  refine ⟨?_, ?_, ?_⟩
  ·intro y0 y1 y2 y3 y4
   unfold an_.l0
   exact gz_
  ·intro y0 y1 y2 y3 y4
   unfold an_.l1
   exact gz_
  intro y0 y1 y2 y3 y4 y5 y6 y7 y8 y9 uR
  unfold an_.l2
  exact gz_
theorem an_.mono : ∀ a0 k, LeO (an_.f k a0) (an_.f (k + 1) a0) := by
 intro a0 k
 obtain ⟨ih0, ih1, ih2⟩ := an_.mono_l k
 unfold an_.f
 exact gz_
set_option maxHeartbeats 8000000 in
set_option maxRecDepth 100000 in
theorem an_.calls (k : Nat) (A0 : Option Addr) (c0 : Nat) (l0 : List (S42)) (r1 : List (S42)) (r2 : Bool) (w : World) (hr0 : Kd.C k42 w A0 l0.length l0) (hc0 : l0.length ≤ c0) (h : an_.f k l0 = some (r1, r2)) :
  Calls Tryz.prog 10 #[.slice A0 l0.length c0] w fun e w' => ∃ v0_ : Value, e = .returned (.tuple #[v0_, .bool r2]) ∧ Kd.R k42 42 w' w.heap.size (fun _ => True) v0_ r1 ∧ Below w.heap.size w w' := by
 have hu42 := Tryz.underlying42
 have HR0 := aa_.mk hr0
 have HC0 := aa_.mk hc0
 clear hr0 hc0
 have HB := aa_.mk (Below.refl w.heap.size w)
 have H := h; unfold an_.f at H
 clear h
 replace H := bd_ H; obtain ⟨rj, A2, H⟩ := H
 replace H := it_ H; obtain ⟨rfl, H⟩ | ⟨rfl, H⟩ := H
 ·generalize e_ : ((([] : List Int)) : List Int) = JI at H
  have DB := aa_.mk e_.symm; clear e_
  have H' := aa_.mk H
  clear H
  go_enter Tryz.func10, Tryz.ntmps10
  go_wp2_with (first | ((with_reducible refine ae_ (f := 13) rfl ?_); refine gl_ 14 Tryz.func13 #[.slice A0 l0.length c0] ?_; (with_reducible refine (ap_.calls k _ _ l0 true _ ?_ ?_ A2.out).mono ?_); exact (Z15 HR0); exact HC0.out; rintro e w4 ⟨rfl, hb⟩; refine ⟨_, rfl, ?_⟩; refine k1_ Ws_ ?_; clear HB; intro HB; (try clear hb)) | ((with_reducible refine au_ (N := 16) rfl ?_); refine lu_ (Kd.int .i64) 3 16 ([] : List Int) [] (aH_.none _ _) ?_; intro v205 w5 ho6 hb hg_ hnew_; clear hg_ hnew_; (first | rw [← DB.out] at ho6 | (simp only [Int.reduceToNat] at ho6; rw [← DB.out] at ho6)); refine k2_ (Kd.pY_ ho6 (ao_ (Z2))) Ws_ ?_; clear HB; intro HO206 HB; clear hb ho6))
  (try simp only [Act.put, List.setIfInBounds_toArray, List.set_cons_zero, List.set_cons_succ])
  go_loopg [4, 19] k (fun kq v4 Jz w' => ∃ (aC : List Int) (aj : Int), Jz = .int .i64 aj ∧ aa_ (an_.l0 kq l0 aC l0 (l0.length : Int) aj = some (r1, r2)) ∧ aa_ (kq ≤ k) ∧ aa_ (Kd.R (Kd.int .i64) 3 w' w.heap.size (fun _ => True) v4 aC) ∧ aa_ (Below w.heap.size w w'))
  case atStart => exact ⟨(JI), (0), (Z14), H', ⟨Nat.le_refl _⟩, ⟨Z1 HO206⟩, ⟨Z2⟩⟩
  case round =>
   clear H'
   obtain ⟨aC, aj, rfl, HA, HK1, ak, HB⟩ := hrel
   cases gk with
   | zero => exact absurd HA.out (by simp [an_.l0])
   | succ k1 =>
    have H := HA.out
    clear HA
    simp only [an_.l0] at H
    replace H := iv_ H; obtain ⟨dJ, H⟩ | ⟨dJ, H⟩ := H
    ·replace H := id_ H; obtain ⟨gN, H⟩ := H
     replace H := id_ H; obtain ⟨gP, H⟩ := H
     replace H := ia_ H; obtain ⟨LMc10, H⟩ := H
     generalize e_ : ((aC ++ [(ac_ l0 aj).f1]) : List Int) = JJ at H
     have Ny209 := aa_.mk e_.symm; clear e_
     have H' := aa_.mk H
     clear H
     obtain ⟨ad207, e207, nf, ng, Cc, Cd⟩ := ds_ HR0.out HB.out aj
     cases e207
     go_wp2_with (first | ((with_reducible refine au_ (N := 6) rfl ?_); refine bv_ 6 42 #[.int .i64 0, .int .i64 0] ?_; intro rm hg nI hbox hb; refine k5_ (Ya_ ak) Ws_ (hbox) (Wg_ w rm) (Wg_ w rm) ?_; clear ak HB; intro ak HB oZ GW208 GE208; clear hb hbox hg; obtain ⟨eC, fh, eD, fi⟩ := cH_ (w := nI) oZ.out) | ((with_reducible refine bh_ (b := .append) (xs := #[.tmp 23, .tmp 26]) rfl ?_); at_builtin; refine oS_ (w0 := w) w.heap.size (.tmp 23) (.tmp 26) u4 aC ((ac_ l0 aj).f1) [.int .i64 ((ac_ l0 aj).f1)] (fun _ => True) rfl (Z39) ?aP ?aF ?aO ?aB ?aS ?aL ?_; (case aP => exact rfl); (case aB => exact mx_); (case aF => exact (fun _ _ => trivial)); (case aO => exact (by (with_reducible repeat (first | apply Kd.p1_ | apply Kd.p0_ | apply Kd.pZ_)); exact Kd.pX_ (Kd.p4_ (p := ⟨rm, 1, none⟩) (Kd.p4_ (p := ⟨rm, 0, none⟩) (Kd.qf_ ak.out oZ.out (by decide)) (fun _ hk => hk.2) (.int .i64 ((ac_ l0 aj).f0))) (fun _ hk => hk.2) (.int .i64 ((ac_ l0 aj).f1))) (fun _ hk => trivial))); (case aS => exact (ao_ (mx_))); (case aL => exact Z91 LMc10); intro v210 oE ho hb hg hat; rw [← Ny209.out] at ho; refine k3_ (bg_ (g := rm) (o := .cells #[.int .i64 ((ac_ l0 aj).f0), .int .i64 ((ac_ l0 aj).f1)] 42 (0, 0)) (by (with_reducible repeat (first | refine aG_ ?_ _ | refine ax_ ?_ | refine aF_ ?_ _)); refine bb_ (cs := #[.int .i64 ((ac_ l0 aj).f0), .int .i64 0]) ?_ 1 _ rfl; (with_reducible repeat (first | refine aG_ ?_ _ | refine ax_ ?_ | refine aF_ ?_ _)); refine bb_ (cs := #[.int .i64 0, .int .i64 0]) ?_ 0 _ rfl; (with_reducible repeat (first | refine aG_ ?_ _ | refine ax_ ?_ | refine aF_ ?_ _)); exact oZ.out) hg (Kd.qb_ ak.out oZ.out (by decide))) (hb) (ho) ?_; clear oZ HB ak; intro oZ HB HO211; clear ho hb hg hat))
     go_roundg k1
     case measure => have := HK1.out; omega
     case rel => exact ⟨(JJ), (wrap64 (aj + 1)), (Z14), H', ⟨Z91 HK1⟩, ⟨Z1 HO211⟩, ⟨mx_⟩⟩
    replace H := bd_ H; obtain ⟨cY, pD, H⟩ := H
    generalize e_ : ((([] : List (S42))) : List (S42)) = JK at H
    have DC := aa_.mk e_.symm; clear e_
    have H' := aa_.mk H
    clear H
    obtain ⟨nG, jG, jH⟩ := Kd.pW_ ak.out
    subst jH
    go_wp2_with (first | ((with_reducible refine ae_ (f := 33) rfl ?_); refine gl_ 30 Tryz.func33 #[.slice nG aC.length jG] ?_; (with_reducible refine (bD_.calls _ _ aC cY _ ?_ ?_ pD.out).mono ?_); exact (Z3 ak); exact (Kd.pV_ ak.out).2.1; rintro e lR ⟨v213, rfl, ho0, hb⟩; refine ⟨_, rfl, ?_⟩; refine k3_ (Yb_ ak) (Wa_ ak) Ws_ ?_; clear ak HB; intro ak ro HB; (try clear hb ho0)) | ((with_reducible refine au_ (N := 31) rfl ?_); refine lu_ k42 42 31 ([] : List (S42)) [] (aH_.none _ _) ?_; intro v216 oD ho18 hb hg_ hnew_; clear hg_ hnew_; (first | rw [← DC.out] at ho18 | (simp only [Int.reduceToNat] at ho18; rw [← DC.out] at ho18)); refine k4_ (Ya_ ak) (Ya_ ro) (Kd.pY_ ho18 (ao_ (Z2))) Ws_ ?_; clear ak ro HB; intro ak ro HO217 HB; clear hb ho18; obtain ⟨lV, gl, nE⟩ := Kd.pW_ ro.out; subst nE))
    (try simp only [Act.put, List.setIfInBounds_toArray, List.set_cons_zero, List.set_cons_succ])
    go_loopg [7, 34] k1 (fun kq v7 NE w' => ∃ (av : List (S42)) (cd : Int), NE = .int .i64 cd ∧ aa_ (an_.l1 kq l0 av cY (cY.length : Int) cd = some (r1, r2)) ∧ aa_ (kq ≤ k1) ∧ aa_ (Kd.R k42 42 w' w.heap.size (fun _ => True) v7 av) ∧ aa_ (Kd.R (Kd.int .i64) 3 w' w.heap.size (fun _ => True) (.slice lV cY.length gl) cY) ∧ aa_ (Below w.heap.size w w'))
    case atStart => exact ⟨(JK), (0), (Z14), H', ⟨Nat.le_refl _⟩, ⟨Z1 HO217⟩, ⟨Z38 ro⟩, ⟨Z2⟩⟩
    case round =>
     clear H'
     (try clear dJ); (try clear gN)
     obtain ⟨av, cd, rfl, HA, HK2, aH, cH, HB⟩ := hrel
     cases gk with
     | zero => exact absurd HA.out (by simp [an_.l1])
     | succ k2 =>
      have H := HA.out
      clear HA
      simp only [an_.l1] at H
      replace H := iv_ H; obtain ⟨dS, H⟩ | ⟨dS, H⟩ := H
      ·replace H := id_ H; obtain ⟨mo, H⟩ := H
       replace H := id_ H; obtain ⟨o0, H⟩ := H
       generalize e_ : ((([] : List (S42))) : List (S42)) = uS at H
       have DD := aa_.mk e_.symm; clear e_
       have H' := aa_.mk H
       clear H
       have Ce : 0 ≤ (cd : Int) := of_decide_eq_true (Z8)
       have Cf : cd < (cY.length : Int) := of_decide_eq_true (Z8)
       obtain ⟨ad218, e218, hx218_0⟩ := Kd.at_int (Kd.pV_ cH.out).2.2 cd Ce Cf
       cases e218
       replace Ce := eq_true Ce
       replace Cf := eq_true Cf
       go_wp2_with (first | ((with_reducible refine au_ (N := 8) rfl ?_); refine bv_ 8 3 #[.int .i64 0] ?_; intro gI hg wI hbox hb; have n0_ := aa_.mk (Kd.p5_ (Kd.p6_ (Z1 aH) gI (Nat.le_of_eq hg.symm)) hb); have n1_ := aa_.mk (Kd.p5_ (Kd.p6_ (Z1 cH) gI (Nat.le_of_eq hg.symm)) hb); have n2_ := aa_.mk Ws_; have n3_ := aa_.mk (hbox); have n4_ := aa_.mk (Wg_ w gI); (try clear aH); (try clear cH); (try clear HB); (try clear BKI); (try clear GEI); have aH := n0_; have cH := n1_; have HB := n2_; have BKI := n3_; have GEI := n4_; clear n0_ n1_ n2_ n3_ n4_; clear hb hbox hg; have hcI : wI.cell? ⟨gI, 0, none⟩ = some (.int .i64 0) := (aE_ BKI.out 0).trans rfl; have hfI := a1_ BKI.out 0) | ((with_reducible refine au_ (N := 39) rfl ?_); refine lu_ k42 42 39 ([] : List (S42)) [] (aH_.none _ _) ?_; intro v220 Dp ho24 hb hg_ hnew_; clear hg_ hnew_; (first | rw [← DD.out] at ho24 | (simp only [Int.reduceToNat] at ho24; rw [← DD.out] at ho24)); have b_ := bb_ (cs := #[.int .i64 0]) (cs' := #[.int .i64 cd]) BKI.out 0 (.int .i64 cd) rfl; have n0_ := aa_.mk (Kd.qc_ (mM_ aH) (Kd.p9_ ho24) hb); have n1_ := aa_.mk (Kd.p5_ (mM_ cH) hb); have n2_ := aa_.mk (Kd.pY_ (Kd.qa_ (Kd.p3_ ho24 (Kd.qr_ (mM_ aH))) b_) (ao_ (of_))); have n3_ := aa_.mk (cj_ b_ hb); have n4_ := aa_.mk (aq_ (of_) hb); (try clear aH); (try clear cH); (try clear o1); (try clear BKI); (try clear HB); have aH := n0_; have cH := n1_; have o1 := n2_; have BKI := n3_; have HB := n4_; clear n0_ n1_ n2_ n3_ n4_; clear hb ho24 b_; (try clear hcI hfI); obtain ⟨AoL, coL, eoL⟩ := Kd.pW_ o1.out; subst eoL) | ((with_reducible refine au_ (N := 10) rfl ?_); refine bv_ 10 26 #[.slice none 0 0] ?_; intro gR hg wR hbox hb; have n0_ := aa_.mk (Kd.p5_ (Kd.p6_ (Z1 aH) gR (Nat.le_of_eq hg.symm)) hb); have n1_ := aa_.mk (Kd.p5_ (Kd.p6_ (Z1 cH) gR (Nat.le_of_eq hg.symm)) hb); have n2_ := aa_.mk (Kd.p5_ (Kd.p6_ (Z1 o1) gR (Nat.le_of_eq hg.symm)) hb); have n3_ := aa_.mk ((m6_ : gI ≠ gR)); have n4_ := aa_.mk (Wg_ w gR); have n5_ := aa_.mk (Ye_ BKI); have n6_ := aa_.mk Ws_; have n7_ := aa_.mk (hbox); (try clear aH); (try clear cH); (try clear o1); (try clear NIR); (try clear GER); (try clear BKI); (try clear HB); (try clear BKR); have aH := n0_; have cH := n1_; have o1 := n2_; have NIR := n3_; have GER := n4_; have BKI := n5_; have HB := n6_; have BKR := n7_; clear n0_ n1_ n2_ n3_ n4_ n5_ n6_ n7_; clear hb hbox hg; have hcR : wR.cell? ⟨gR, 0, none⟩ = some (.slice none 0 0) := (aE_ BKR.out 0).trans rfl; have hfR := a1_ BKR.out 0))
       (try simp only [Act.put, List.setIfInBounds_toArray, List.set_cons_zero, List.set_cons_succ])
       go_loopg [42] k2 (fun kq NG w' => ∃ (BZ : Value) (aT : List (S42)) (bU : Int), NG = .int .i64 bU ∧ aa_ (an_.l2 kq l0 av cd (rd cY cd) aT cY (cY.length : Int) cd l0 (l0.length : Int) bU = some (r1, r2)) ∧ aa_ (kq ≤ k2) ∧ aa_ (Kd.R k42 42 w' w.heap.size (fun k_ => (some k_ ≠ (BZ : Value).ownBlock ∧ k_ ≠ gI) ∧ k_ ≠ gR) u7 av) ∧ aa_ (Kd.R k42 42 w' w.heap.size (fun k_ => (some k_ ≠ (u7 : Value).ownBlock ∧ k_ ≠ gI) ∧ k_ ≠ gR) BZ aT) ∧ aa_ (Kd.R (Kd.int .i64) 3 w' w.heap.size (fun k_ => k_ ≠ gI) (.slice (some ad218) cY.length gl) cY) ∧ aa_ (w'.heap[gI]? = some (.cells #[.int .i64 cd] 3 (0, 0))) ∧ aa_ (w'.heap[gR]? = some (.cells #[BZ] 26 (0, 0))) ∧ aa_ (Below w.heap.size w w'))
       case atStart => exact ⟨(.slice AoL uS.length coL), (uS), (0), (Z14), H', ⟨Nat.le_refl _⟩, ⟨by (with_reducible repeat (first | apply Kd.p1_ | apply Kd.p0_ | apply Kd.pZ_)); exact Kd.pX_ (Kd.p4_ (p := ⟨gR, 0, none⟩) aH.out (fun _ hk => hk.2) (.slice AoL uS.length coL)) (fun _ hk => ⟨⟨hk.1.2, hk.1.1.2⟩, hk.2⟩)⟩, ⟨by (with_reducible repeat (first | apply Kd.p1_ | apply Kd.p0_ | apply Kd.pZ_)); exact Kd.pX_ (Kd.p4_ (p := ⟨gR, 0, none⟩) o1.out (fun _ hk => hk.2) (.slice AoL uS.length coL)) (fun _ hk => ⟨⟨hk.1.1.2, hk.1.2⟩, hk.2⟩)⟩, ⟨by (with_reducible repeat (first | apply Kd.p1_ | apply Kd.p0_ | apply Kd.pZ_)); exact Kd.pX_ (Kd.p4_ (p := ⟨gR, 0, none⟩) cH.out (fun _ hk => hk.2) (.slice AoL uS.length coL)) (fun _ hk => hk.1.2)⟩, ⟨ot_⟩, ⟨by (with_reducible repeat (first | refine aG_ ?_ _ | refine ax_ ?_ | refine aF_ ?_ _)); exact bb_ (cs := #[.slice none 0 0]) BKR.out 0 (.slice AoL uS.length coL) rfl⟩, ⟨kI_⟩⟩
       case round =>
        clear H'
        (try clear dS); (try clear mo); (try clear o0); (try clear hx218_0); (try clear Ce); (try clear Cf)
        obtain ⟨u10, aT, bU, rfl, HA, HK3, aH, dx, cH, BKI, BKR, HB⟩ := hrel
        cases gk with
        | zero => exact absurd HA.out (by simp [an_.l2])
        | succ k3 =>
         have H := HA.out
         clear HA
         simp only [an_.l2] at H
         replace H := iv_ H; obtain ⟨DE, H⟩ | ⟨DE, H⟩ := H
         ·replace H := id_ H; obtain ⟨yY, H⟩ := H
          replace H := id_ H; obtain ⟨d5, H⟩ := H
          replace H := ic_ H; obtain ⟨mg, yv, H⟩ | ⟨mg, yv, c28, H⟩ := H
          ·replace H := ia_ H; obtain ⟨rb, H⟩ := H
           generalize e_ : ((aT ++ [(⟨(ac_ l0 bU).f0, (ac_ l0 bU).f1⟩ : S42)]) : List (S42)) = uT at H
           have Ny224 := aa_.mk e_.symm; clear e_
           have H' := aa_.mk H
           clear H
           obtain ⟨ad222, e222, gu, gv, uU, uV⟩ := ds_ HR0.out HB.out bU
           cases e222
           go_wp2_with (first | ((with_reducible refine au_ (N := 12) rfl ?_); refine bv_ 12 42 #[.int .i64 0, .int .i64 0] ?_; intro dt hg iG hbox hb; have n0_ := aa_.mk (Kd.p5_ (Kd.p6_ (Z1 aH) dt (Nat.le_of_eq hg.symm)) hb); have n1_ := aa_.mk (Kd.p5_ (Kd.p6_ (Z1 dx) dt (Nat.le_of_eq hg.symm)) hb); have n2_ := aa_.mk (Kd.p5_ (Kd.p6_ (Z1 cH) dt (Nat.le_of_eq hg.symm)) hb); have n3_ := aa_.mk ((m6_ : gI ≠ dt)); have n4_ := aa_.mk ((by rw [hg]; exact Nat.ne_of_lt (bV_ (zo_ BKR)) : gR ≠ dt)); have n5_ := aa_.mk ((oM_ : w.heap.size ≤ dt)); have n6_ := aa_.mk (Ye_ BKI); have n7_ := aa_.mk (Ye_ BKR); have n8_ := aa_.mk (aq_ (kI_) hb); have n9_ := aa_.mk (hbox); (try clear aH); (try clear dx); (try clear cH); (try clear NIX); (try clear NRX); (try clear vU); (try clear BKI); (try clear BKR); (try clear HB); (try clear o2); have aH := n0_; have dx := n1_; have cH := n2_; have NIX := n3_; have NRX := n4_; have vU := n5_; have BKI := n6_; have BKR := n7_; have HB := n8_; have o2 := n9_; clear n0_ n1_ n2_ n3_ n4_ n5_ n6_ n7_ n8_ n9_; clear hb hbox hg; have hnb1 := NRX.out; have hnc1 := Ne.symm NRX.out; have hnb2 := NIX.out; have hnc2 := Ne.symm NIX.out; have hcR : iG.cell? ⟨gR, 0, none⟩ = some (u10) := (aE_ BKR.out 0).trans rfl; have hfR := a1_ BKR.out 0; obtain ⟨px, pz, pA, pB⟩ := cH_ (w := iG) o2.out) | ((with_reducible refine bh_ (b := .append) (xs := #[.tmp 50, .tmp 52]) rfl ?_); at_builtin; refine e4_ (w0 := w) w.heap.size (.tmp 50) (.tmp 52) u10 aT (⟨(ac_ l0 bU).f0, (ac_ l0 bU).f1⟩ : S42) [.int .i64 ((ac_ l0 bU).f0), .int .i64 ((ac_ l0 bU).f1)] (fun k_ => (((some k_ ≠ (u7 : Value).ownBlock ∧ k_ ≠ gI) ∧ k_ ≠ gR) ∧ k_ ≠ dt)) rfl (Z39) ?aP ?aF ?aO ?aB ?aS ?aL ?_; (case aP => exact cy_ _ _ _ (⟨(ac_ l0 bU).f0, (ac_ l0 bU).f1⟩ : S42)); (case aB => exact ng_); (case aF => exact (fun k_ hk => ⟨⟨⟨Kd.fresh' (Kd.qr_ (Z89 aH)) k_ hk, Kd.freshB (g := gI) (o := .cells #[.int .i64 cd] 3 (0, 0)) (my_) k_ hk⟩, Kd.freshB (g := gR) (o := .cells #[u10] 26 (0, 0)) (mT_) k_ hk⟩, Kd.freshB (g := dt) (o := .cells #[.int .i64 ((ac_ l0 bU).f0), .int .i64 ((ac_ l0 bU).f1)] 42 (0, 0)) (by (with_reducible repeat (first | refine aG_ ?_ _ | refine ax_ ?_ | refine aF_ ?_ _)); refine bb_ (cs := #[.int .i64 ((ac_ l0 bU).f0), .int .i64 0]) ?_ 1 _ rfl; (with_reducible repeat (first | refine aG_ ?_ _ | refine ax_ ?_ | refine aF_ ?_ _)); refine bb_ (cs := #[.int .i64 0, .int .i64 0]) ?_ 0 _ rfl; (with_reducible repeat (first | refine aG_ ?_ _ | refine ax_ ?_ | refine aF_ ?_ _)); exact o2.out) k_ hk⟩)); (case aO => exact (Z89 dx)); (case aS => exact (ao_ (ng_))); (case aL => exact Z91 rb); intro v225 wo ho hb hg hat; rw [← Ny224.out] at ho; have n0_ := aa_.mk (Kd.p2_ (ok := (fun k_ => (k_ ≠ gI ∧ k_ ≠ gR) ∧ k_ ≠ dt)) (by (with_reducible repeat (first | apply Kd.p1_ | apply Kd.p0_ | apply Kd.pZ_)); exact Kd.pX_ (Kd.p4_ (p := ⟨dt, 1, none⟩) (Kd.p4_ (p := ⟨dt, 0, none⟩) aH.out (fun _ hk => hk.2) (.int .i64 ((ac_ l0 bU).f0))) (fun _ hk => hk.2) (.int .i64 ((ac_ l0 bU).f1))) (fun _ hk => ⟨⟨⟨hk.1.1.2, hk.1.2⟩, hk.2⟩, hk.1.1.1⟩)) hg hat); have n1_ := aa_.mk (Kd.qe_ (Z89 cH) (Kd.qd_ (Z89 dx)) (by decide) hg); have n2_ := aa_.mk (bg_ (g := gI) (o := .cells #[.int .i64 cd] 3 (0, 0)) (my_) hg (Kd.qh_ dx.out (fun _ hk => hk.1.1.2))); have n3_ := aa_.mk (bg_ (g := gR) (o := .cells #[u10] 26 (0, 0)) (mT_) hg (Kd.qh_ dx.out (fun _ hk => hk.1.2))); have n4_ := aa_.mk (hb); have n5_ := aa_.mk (ho); (try clear aH); (try clear cH); (try clear BKI); (try clear BKR); (try clear HB); (try clear dx); have aH := n0_; have cH := n1_; have BKI := n2_; have BKR := n3_; have HB := n4_; have dx := n5_; clear n0_ n1_ n2_ n3_ n4_ n5_; clear ho hb hg hat; (try clear hcR hfR); have hcR : wo.cell? ⟨gR, 0, none⟩ = some (u10) := (aE_ BKR.out 0).trans rfl; have hfR := a1_ BKR.out 0; obtain ⟨AoN, coN, eoN⟩ := Kd.pW_ dx.out; subst eoN))
           go_roundg k3
           case measure => have := HK1.out; have := HK2.out; have := HK3.out; omega
           case rel => exact ⟨(.slice AoN uT.length coN), (uT), (wrap64 (bU + 1)), (Z14), H', ⟨fK_⟩, ⟨by (with_reducible repeat (first | apply Kd.p1_ | apply Kd.p0_ | apply Kd.pZ_)); exact Kd.pX_ (Kd.p4_ (p := ⟨gR, 0, none⟩) aH.out (fun _ hk => hk.1.1.2) (.slice AoN uT.length coN)) (fun _ hk => ⟨⟨hk.2, hk.1.1.1⟩, hk.1.1.2⟩)⟩, ⟨by (with_reducible repeat (first | apply Kd.p1_ | apply Kd.p0_ | apply Kd.pZ_)); exact Kd.pX_ (Kd.p4_ (p := ⟨gR, 0, none⟩) dx.out (fun _ hk => hk.1.2) (.slice AoN uT.length coN)) (fun _ hk => hk.1)⟩, ⟨by (with_reducible repeat (first | apply Kd.p1_ | apply Kd.p0_ | apply Kd.pZ_)); exact Kd.pX_ (Kd.p4_ (p := ⟨gR, 0, none⟩) (Kd.qf_ cH.out BKR.out (by decide)) (fun _ hk => hk.2) (.slice AoN uT.length coN)) (fun _ hk => hk.1.1)⟩, ⟨ot_⟩, ⟨by (with_reducible repeat (first | refine aG_ ?_ _ | refine ax_ ?_ | refine aF_ ?_ _)); exact bb_ (cs := #[u10]) BKR.out 0 (.slice AoN uT.length coN) rfl⟩, ⟨kI_⟩⟩
          have H' := aa_.mk H
          clear H
          obtain ⟨ad222, e222, gu, gv, uU, uV⟩ := ds_ HR0.out HB.out bU
          cases e222
          go_wp2_with (((with_reducible refine au_ (N := 12) rfl ?_); refine bv_ 12 42 #[.int .i64 0, .int .i64 0] ?_; intro dt hg m9 hbox hb; have n0_ := aa_.mk (Kd.p5_ (Kd.p6_ (Z1 aH) dt (Nat.le_of_eq hg.symm)) hb); have n1_ := aa_.mk (Kd.p5_ (Kd.p6_ (Z1 dx) dt (Nat.le_of_eq hg.symm)) hb); have n2_ := aa_.mk (Kd.p5_ (Kd.p6_ (Z1 cH) dt (Nat.le_of_eq hg.symm)) hb); have n3_ := aa_.mk ((m6_ : gI ≠ dt)); have n4_ := aa_.mk ((by rw [hg]; exact Nat.ne_of_lt (bV_ (zo_ BKR)) : gR ≠ dt)); have n5_ := aa_.mk ((oM_ : w.heap.size ≤ dt)); have n6_ := aa_.mk (Ye_ BKI); have n7_ := aa_.mk (Ye_ BKR); have n8_ := aa_.mk (aq_ (kI_) hb); have n9_ := aa_.mk (hbox); (try clear aH); (try clear dx); (try clear cH); (try clear NIX); (try clear NRX); (try clear vU); (try clear BKI); (try clear BKR); (try clear HB); (try clear o2); have aH := n0_; have dx := n1_; have cH := n2_; have NIX := n3_; have NRX := n4_; have vU := n5_; have BKI := n6_; have BKR := n7_; have HB := n8_; have o2 := n9_; clear n0_ n1_ n2_ n3_ n4_ n5_ n6_ n7_ n8_ n9_; clear hb hbox hg; have hnb1 := NRX.out; have hnc1 := Ne.symm NRX.out; have hnb2 := NIX.out; have hnc2 := Ne.symm NIX.out; have hcR : m9.cell? ⟨gR, 0, none⟩ = some (u10) := (aE_ BKR.out 0).trans rfl; have hfR := a1_ BKR.out 0; obtain ⟨hcz34_0, hcz34_1, hfz34_0, hfz34_1⟩ := cH_ (w := m9) o2.out))
          go_roundg k3
          case measure => have := HK1.out; have := HK2.out; have := HK3.out; omega
          case rel => exact ⟨u10, (aT), (wrap64 (bU + 1)), (Z14), H', ⟨fK_⟩, ⟨Z98 aH⟩, ⟨Z98 dx⟩, ⟨Z98 cH⟩, ⟨my_⟩, ⟨mT_⟩, ⟨ng_⟩⟩
         replace H := bd_ H; obtain ⟨nP, yZ, H⟩ := H
         replace H := ia_ H; obtain ⟨LMc36, H⟩ := H
         generalize e_ : ((av ++ nP) : List (S42)) = JL at H
         have Ny230 := aa_.mk e_.symm; clear e_
         have H' := aa_.mk H
         clear H
         obtain ⟨eW, eh, mL⟩ := Kd.pW_ dx.out
         subst mL
         have hcR := (aE_ BKR.out 0).trans (rfl : (#[.slice eW aT.length eh] : Array Value)[0]? = some (.slice eW aT.length eh))
         have hfR := a1_ BKR.out 0
         go_wp2_with (first | ((with_reducible refine ae_ (f := 34) rfl ?_); refine ey_ (some 58) rfl rfl Tryz.func34 (by kernel_rfl) rfl #[.iface 26 (.slice eW aT.length eh), .func (.func 35) #[] #[.pointer (some ⟨gI, 0, none⟩), .pointer (some ⟨gR, 0, none⟩)]] rfl (Z99) ?_; refine (an_.sorts cd aT nP eW eh gI gR w.heap.size (fun k_ => (some k_ ≠ (u7 : Value).ownBlock ∧ k_ ≠ gI) ∧ k_ ≠ gR) _ yZ.out (Z1 dx) (fun _ hk => hk.1.2) (fun _ hk => hk.2) NIR.out (Z5 BKI) (Z5 BKR)).mono ?_; rintro e wT ⟨rfl, hln, ho, hbI, hbx, hg⟩; refine ⟨_, rfl, ?_⟩; have hB_ := (Z2); have n0_ := aa_.mk (Kd.p2_ (ok := (fun k_ => k_ ≠ gI ∧ k_ ≠ gR)) (v1 := .slice eW nP.length eh) (by (with_reducible repeat (first | apply Kd.p1_ | apply Kd.p0_ | apply Kd.pZ_)); exact Kd.pX_ aH.out (fun _ hk => ⟨⟨hk.1.2, hk.2⟩, hk.1.1⟩)) hg (.inl (by rw [hln]))); have n1_ := aa_.mk (Kd.qe_ (Z1 cH) (Kd.qd_ (Z1 dx)) (by decide) hg); have n2_ := aa_.mk (hB_.grown hg hB_.size (fun k_ hk_ => Kd.p9_ dx.out k_ hk_)); have n3_ := aa_.mk (hbx); have n4_ := aa_.mk (ho); have aH := n0_; have cH := n1_; have HB := n2_; have BKR := n3_; have dx := n4_; clear n0_ n1_ n2_ n3_ n4_; clear ho hbI hbx hg hB_; (try clear hcR hfR); have hcR : wT.cell? ⟨gR, 0, none⟩ = some (.slice eW nP.length eh) := (aE_ BKR.out 0).trans rfl; have hfR := a1_ BKR.out 0) | ((with_reducible refine bh_ (b := .append) (xs := #[.tmp 59, .tmp 60]) rfl ?_); at_builtin; refine hC_ (w0 := w) w.heap.size (.tmp 59) (.tmp 60) u7 av nP (fun _ => True) rfl rfl ?aO ?aR ?aF ?aB ?aS ?aL ?_; (case aR => exact Z3 dx); (case aB => exact Z2); (case aF => exact (fun _ _ => trivial)); (case aO => exact (by (with_reducible repeat (first | apply Kd.p1_ | apply Kd.p0_ | apply Kd.pZ_)); exact Kd.pX_ aH.out (fun _ _ => trivial))); (case aS => exact (ao_ (Z2))); (case aL => exact Z91 LMc36); intro v231 yx ho hb hg hat; rw [← Ny230.out] at ho; have n0_ := aa_.mk (Kd.qe_ (Z1 cH) (Kd.qd_ (Z1 aH)) (by decide) hg); have n1_ := aa_.mk (hb); have n2_ := aa_.mk (ho); have cH := n0_; have HB := n1_; have HO232 := n2_; clear n0_ n1_ n2_; clear ho hb hg hat))
         go_roundg k3
         case measure => have := HK1.out; have := HK2.out; have := HK3.out; omega
         case rel => exact ⟨(JL), (wrap64 (cd + 1)), (Z14), H', ⟨fK_⟩, ⟨Z38 HO232⟩, ⟨by (with_reducible repeat (first | apply Kd.p1_ | apply Kd.p0_ | apply Kd.pZ_)); exact Kd.pX_ cH.out (fun _ _ => trivial)⟩, ⟨Z2⟩⟩
      obtain ⟨rfl, rfl⟩ := sp_ H; clear H
      go_wp2
      go_ret2
      exact ⟨_, Z9, Z1 aH, Z2⟩
 obtain ⟨rfl, rfl⟩ := sp_ H; clear H
 go_enter Tryz.func10, Tryz.ntmps10
 go_wp2_with (((with_reducible refine ae_ (f := 13) rfl ?_); refine gl_ 14 Tryz.func13 #[.slice A0 l0.length c0] ?_; (with_reducible refine (ap_.calls k _ _ l0 false _ ?_ ?_ A2.out).mono ?_); exact (Z15 HR0); exact HC0.out; rintro e BN ⟨rfl, hb⟩; refine ⟨_, rfl, ?_⟩; refine k1_ Ws_ ?_; clear HB; intro HB; (try clear hb)))
 go_ret2
 exact ⟨_, Z9, Z17, Z2⟩
def dN_.f (a0 : Int) : Option (Bool) := (bK_.f a0 0 1999).bind fun xk => (some xk)
set_option maxHeartbeats 8000000 in
set_option maxRecDepth 100000 in
theorem dN_.calls (a0 : Int) (r : Bool) (w : World) (h : dN_.f a0 = some r) :
  Calls Tryz.prog 102 #[.int .i64 a0] w fun e w' => e = .returned (.bool r) ∧ bH_ w w' := by
 have H := h; unfold dN_.f at H
 clear h
 replace H := bd_ H; obtain ⟨xk, A2, H⟩ := H
 replace H : (some xk) = some r := H
 obtain rfl := Option.some.inj H
 go_enter Tryz.func102, Tryz.ntmps102
 go_wp2_with (((with_reducible refine ae_ (f := 79) rfl ?_); refine gl_ 4 Tryz.func79 #[.int .i64 a0, .int .i64 0, .int .i64 1999] ?_; (with_reducible refine (bK_.calls a0 0 1999 xk _ A2.out).mono ?_); rintro e w' ⟨rfl, ⟨nd, rfl⟩⟩; refine ⟨_, rfl, ?_⟩))
 go_ret
 exact ⟨Z14, Z41⟩
def cT_.f (a0_0 : Int) (a0_1 : Int) : Option (Bool) := (bK_.f a0_0 0 19).bind fun za => (if za = true then ((dN_.f a0_1).bind fun xl => (some xl)) else (some false))
set_option maxHeartbeats 8000000 in
set_option maxRecDepth 100000 in
theorem cT_.calls (a0_0 : Int) (a0_1 : Int) (r : Bool) (w : World) (h : cT_.f a0_0 a0_1 = some r) :
  Calls Tryz.prog 74 #[.agg #[.int .i64 a0_0, .int .i64 a0_1]] w fun e w' => e = .returned (.bool r) ∧ Below w.heap.size w w' := by
 have hu42 := Tryz.underlying42
 have HB := aa_.mk (Below.refl w.heap.size w)
 have H := h; unfold cT_.f at H
 clear h
 replace H := bd_ H; obtain ⟨za, A2, H⟩ := H
 replace H := it_ H; obtain ⟨rfl, H⟩ | ⟨rfl, H⟩ := H
 ·replace H := bd_ H; obtain ⟨xl, A4, H⟩ := H
  replace H : (some xl) = some r := H
  obtain rfl := Option.some.inj H
  go_enter Tryz.func74, Tryz.ntmps74
  go_wp2_with (first | ((with_reducible refine au_ (N := 1) rfl ?_); refine bv_ 1 42 #[.int .i64 a0_0, .int .i64 a0_1] ?_; intro ru hg w5 hbox hb; refine k4_ Ws_ (hbox) (Wg_ w ru) (Wg_ w ru) ?_; clear HB; intro HB zb GW445 Df; clear hb hbox hg; obtain ⟨lS, lT, nC, lU⟩ := cH_ (w := w5) zb.out) | ((with_reducible refine ae_ (f := 79) rfl ?_); refine gl_ 5 Tryz.func79 #[.int .i64 a0_0, .int .i64 0, .int .i64 19] ?_; (with_reducible refine (bK_.calls a0_0 0 19 true _ A2.out).mono ?_); rintro e w' ⟨rfl, ⟨nd, rfl⟩⟩; refine ⟨_, rfl, ?_⟩) | (go_at_call 102; (with_reducible refine (dN_.calls a0_1 xl _ A4.out).mono ?_); rintro e w' ⟨rfl, ⟨nd, rfl⟩⟩))
  go_ret
  exact ⟨Z9, oi_⟩
 obtain rfl := Option.some.inj H
 go_enter Tryz.func74, Tryz.ntmps74
 go_wp2_with (first | ((with_reducible refine au_ (N := 1) rfl ?_); refine bv_ 1 42 #[.int .i64 a0_0, .int .i64 a0_1] ?_; intro ru hg w7 hbox hb; refine k4_ Ws_ (hbox) (Wg_ w ru) (Wg_ w ru) ?_; clear HB; intro HB zb GW445 Df; clear hb hbox hg; obtain ⟨fF, fG, gj, fH⟩ := cH_ (w := w7) zb.out) | ((with_reducible refine ae_ (f := 79) rfl ?_); refine gl_ 5 Tryz.func79 #[.int .i64 a0_0, .int .i64 0, .int .i64 19] ?_; (with_reducible refine (bK_.calls a0_0 0 19 false _ A2.out).mono ?_); rintro e w' ⟨rfl, ⟨nd, rfl⟩⟩; refine ⟨_, rfl, ?_⟩))
 go_ret
 exact ⟨Z9, oi_⟩
def aQ_.l0 : Nat → List (S42) → List (S42) → Int → Int → Option (Bool)
 | 0, _, _, _, _ => none
 | k + 1, x0, x5, x6, x7 => if x7 < x6 then (if 0 ≤ x7 then (if x7 < (x5.length : Int) then ((cT_.f ((ac_ x5 x7).f0) ((ac_ x5 x7).f1)).bind fun GR => (if GR = true then (aQ_.l0 k x0 x5 x6 (wrap64 (x7 + 1))) else (some false))) else (none)) else (none)) else (some (decide ((x0.length : Int) ≤ 200)))
def aQ_.f (k : Nat) (l0 : List (S42)) : Option (Bool) := aQ_.l0 k l0 l0 (l0.length : Int) 0
theorem aQ_.mono_l : ∀ k, (∀ y0 y1 y2 y3, LeO (aQ_.l0 k y0 y1 y2 y3) (aQ_.l0 (k + 1) y0 y1 y2 y3))
 | 0 => fun _ _ _ _ r h => by simp [aQ_.l0] at h
 | k + 1 => by
  have ih0 := aQ_.mono_l k
  ·intro y0 y1 y2 y3
   unfold aQ_.l0
   exact gz_
theorem aQ_.mono : ∀ a0 k, LeO (aQ_.f k a0) (aQ_.f (k + 1) a0) := by
 intro a0 k
 have ih0 := aQ_.mono_l k
 unfold aQ_.f
 exact gz_
set_option maxHeartbeats 8000000 in
set_option maxRecDepth 100000 in
theorem aQ_.calls (k : Nat) (A0 : Option Addr) (c0 : Nat) (l0 : List (S42)) (r : Bool) (w : World) (hr0 : Kd.C k42 w A0 l0.length l0) (hc0 : l0.length ≤ c0) (h : aQ_.f k l0 = some r) :
  Calls Tryz.prog 36 #[.slice A0 l0.length c0] w fun e w' => e = .returned (.bool r) ∧ Below w.heap.size w w' := by
 have hu42 := Tryz.underlying42
 have HR0 := aa_.mk hr0
 have HC0 := aa_.mk hc0
 clear hr0 hc0
 have HB := aa_.mk (Below.refl w.heap.size w)
 have H := h; unfold aQ_.f at H
 clear h
 have H' := aa_.mk H
 clear H
 go_enter Tryz.func36, Tryz.ntmps36
 go_wp2
 go_loopg [7] k (fun kq v7 w' => ∃ (bM : Int), v7 = .int .i64 bM ∧ aa_ (aQ_.l0 kq l0 l0 (l0.length : Int) bM = some r) ∧ aa_ (kq ≤ k) ∧ aa_ (Below w.heap.size w w'))
 case atStart => exact ⟨(0), (Z14), H', ⟨Nat.le_refl _⟩, ⟨Z2⟩⟩
 case round =>
  clear H'
  obtain ⟨bM, rfl, HA, HK1, HB⟩ := hrel
  cases gk with
  | zero => exact absurd HA.out (by simp [aQ_.l0])
  | succ k1 =>
   have H := HA.out
   clear HA
   simp only [aQ_.l0] at H
   replace H := iv_ H; obtain ⟨dB, H⟩ | ⟨dB, H⟩ := H
   ·replace H := id_ H; obtain ⟨cU, H⟩ := H
    replace H := id_ H; obtain ⟨da, H⟩ := H
    replace H := bd_ H; obtain ⟨GR, A5, H⟩ := H
    replace H := it_ H; obtain ⟨rfl, H⟩ | ⟨rfl, H⟩ := H
    ·have H' := aa_.mk H
     clear H
     obtain ⟨ad448, e448, gw, gx, uW, uX⟩ := ds_ HR0.out HB.out bM
     cases e448
     go_wp2_with (first | ((with_reducible refine au_ (N := 4) rfl ?_); refine bv_ 4 42 #[.int .i64 0, .int .i64 0] ?_; intro nQ hg w7 hbox hb; refine k4_ Ws_ (hbox) (Wg_ w nQ) (Wg_ w nQ) ?_; clear HB; intro HB mf GW449 Dk; clear hb hbox hg; obtain ⟨fF, fG, gj, fH⟩ := cH_ (w := w7) mf.out) | ((with_reducible refine ae_ (f := 74) rfl ?_); refine gl_ 12 Tryz.func74 #[.agg #[.int .i64 ((ac_ l0 bM).f0), .int .i64 ((ac_ l0 bM).f1)]] ?_; (with_reducible refine (cT_.calls ((ac_ l0 bM).f0) ((ac_ l0 bM).f1) true _ A5.out).mono ?_); rintro e w9 ⟨rfl, hb⟩; refine ⟨_, rfl, ?_⟩; refine k2_ (cj_ (g := nQ) (o := .cells #[.int .i64 ((ac_ l0 bM).f0), .int .i64 ((ac_ l0 bM).f1)] 42 (0, 0)) (pa_) hb) (aq_ (lh_) hb) ?_; clear mf HB; intro mf HB; (try clear hb)))
     go_roundg k1
     case measure => have := HK1.out; omega
     case rel => exact ⟨(wrap64 (bM + 1)), (Z14), H', ⟨Z91 HK1⟩, ⟨lh_⟩⟩
    obtain rfl := Option.some.inj H
    obtain ⟨ad448, e448, gw, gx, uW, uX⟩ := ds_ HR0.out HB.out bM
    cases e448
    go_wp2_with (first | ((with_reducible refine au_ (N := 4) rfl ?_); refine bv_ 4 42 #[.int .i64 0, .int .i64 0] ?_; intro nQ hg jc hbox hb; refine k4_ Ws_ (hbox) (Wg_ w nQ) (Wg_ w nQ) ?_; clear HB; intro HB mf GW449 Dk; clear hb hbox hg; obtain ⟨fj, gp, fk, gq⟩ := cH_ (w := jc) mf.out) | ((with_reducible refine ae_ (f := 74) rfl ?_); refine gl_ 12 Tryz.func74 #[.agg #[.int .i64 ((ac_ l0 bM).f0), .int .i64 ((ac_ l0 bM).f1)]] ?_; (with_reducible refine (cT_.calls ((ac_ l0 bM).f0) ((ac_ l0 bM).f1) false _ A5.out).mono ?_); rintro e qT ⟨rfl, hb⟩; refine ⟨_, rfl, ?_⟩; refine k2_ (cj_ (g := nQ) (o := .cells #[.int .i64 ((ac_ l0 bM).f0), .int .i64 ((ac_ l0 bM).f1)] 42 (0, 0)) (pa_) hb) (aq_ (lh_) hb) ?_; clear mf HB; intro mf HB; (try clear hb)))
    go_ret
    exact ⟨Z9, lh_⟩
   obtain rfl := Option.some.inj H
   go_wp2
   go_ret
   exact ⟨Z9, Z2⟩
theorem hd_ {p : Prop} (h : p := by repeat' first | (with_reducible first | apply ih0 | apply ih0 | apply ih1 | apply ih1 | apply ih2 | apply ih2 | apply ih3 | apply ih3 | apply aQ_.mono | apply aQ_.mono | exact LeO.refl _ | exact LeO.none _ | refine LeO.ite ?_ ?_ | refine LeO.bind ?_ (fun _ => ?_)) | exact LeO.none _ | refine LeO.ite ?_ ?_ | refine LeO.bind ?_ (fun _ => ?_)) : p := h
mutual
def ai_.l0 : Nat → List (S42) → List (S42) → Bool → Int → Option ((List (S42)) × Bool)
 | 0, _, _, _, _ => none
 | k + 1, x0, x4, x5, x6 => if x6 < 2000 then (ai_.l1 k x0 x4 x5 x6 ([] : List (S42)) x0 (x0.length : Int) 0) else (some (x4, true))
def ai_.l1 : Nat → List (S42) → List (S42) → Bool → Int → List (S42) → List (S42) → Int → Int → Option ((List (S42)) × Bool)
 | 0, _, _, _, _, _, _, _, _ => none
 | k + 1, x0, x4, x5, x6, x7, x19, x20, x21 => if x21 < x20 then (if 0 ≤ x21 then (if x21 < (x19.length : Int) then (if ((ac_ x19 x21).f1) = x6 then (ai_.l2 k x0 x4 x5 x6 x7 (x7.length : Int) x19 x20 x21 ((ac_ x19 x21).f0) ((ac_ x19 x21).f1)) else (ai_.l1 k x0 x4 x5 x6 x7 x19 x20 (wrap64 (x21 + 1)))) else (none)) else (none)) else (ai_.l3 k x0 x4 x5 x6 x7 (x7.length : Int) 0)
def ai_.l2 : Nat → List (S42) → List (S42) → Bool → Int → List (S42) → Int → List (S42) → Int → Int → Int → Int → Option ((List (S42)) × Bool)
 | 0, _, _, _, _, _, _, _, _, _, _, _ => none
 | k + 1, x0, x4, x5, x6, x7, x10, x19, x20, x21, nh, pE => if x10 > 0 then (if 0 ≤ (wrap64 (x10 - 1)) then (if (wrap64 (x10 - 1)) < (x7.length : Int) then (if ((ac_ x7 (wrap64 (x10 - 1))).f0) > nh then (ai_.l2 k x0 x4 x5 x6 x7 (wrap64 (x10 - 1)) x19 x20 x21 nh pE) else ((some (([] : List (S42)) : List (S42))).bind fun jk => (if 0 ≤ x10 then (if x10 ≤ (x7.length : Int) then ((some (x7.take (x10 : Int).toNat : List (S42))).bind fun dK => (if jk.length + dK.length < 8796093022208 then ((some (jk ++ dK : List (S42))).bind fun fI => ((some (([(⟨nh, pE⟩ : S42)] : List (S42)) : List (S42))).bind fun dq => (if fI.length + dq.length < 8796093022208 then ((some (fI ++ dq : List (S42))).bind fun em => ((some (x7.drop (x10 : Int).toNat : List (S42))).bind fun cD => (if em.length + cD.length < 8796093022208 then (ai_.l1 k x0 x4 x5 x6 (em ++ cD) x19 x20 (wrap64 (x21 + 1))) else (none)))) else (none)))) else (none))) else (none)) else (none)))) else (none)) else (none)) else ((some (([] : List (S42)) : List (S42))).bind fun mM => (if 0 ≤ x10 then (if x10 ≤ (x7.length : Int) then ((some (x7.take (x10 : Int).toNat : List (S42))).bind fun d8 => (if mM.length + d8.length < 8796093022208 then ((some (mM ++ d8 : List (S42))).bind fun gQ => ((some (([(⟨nh, pE⟩ : S42)] : List (S42)) : List (S42))).bind fun dC => (if gQ.length + dC.length < 8796093022208 then ((some (gQ ++ dC : List (S42))).bind fun e8 => ((some (x7.drop (x10 : Int).toNat : List (S42))).bind fun cS => (if e8.length + cS.length < 8796093022208 then (ai_.l1 k x0 x4 x5 x6 (e8 ++ cS) x19 x20 (wrap64 (x21 + 1))) else (none)))) else (none)))) else (none))) else (none)) else (none)))
def ai_.l3 : Nat → List (S42) → List (S42) → Bool → Int → List (S42) → Int → Int → Option ((List (S42)) × Bool)
 | 0, _, _, _, _, _, _, _ => none
 | k + 1, x0, x4, x5, x6, x7, x60, x61 => if x61 < x60 then (if x5 = true then (if 0 ≤ (wrap64 ((wrap64 ((x7.length : Int) - 1)) - x61)) then (if (wrap64 ((wrap64 ((x7.length : Int) - 1)) - x61)) < (x7.length : Int) then ((some (([(⟨(ac_ x7 (wrap64 ((wrap64 ((x7.length : Int) - 1)) - x61))).f0, (ac_ x7 (wrap64 ((wrap64 ((x7.length : Int) - 1)) - x61))).f1⟩ : S42)] : List (S42)) : List (S42))).bind fun lW => (if x4.length + lW.length < 8796093022208 then (ai_.l3 k x0 (x4 ++ lW) x5 x6 x7 x60 (wrap64 (x61 + 1))) else (none))) else (none)) else (none)) else (if 0 ≤ x61 then (if x61 < (x7.length : Int) then ((some (([(⟨(ac_ x7 x61).f0, (ac_ x7 x61).f1⟩ : S42)] : List (S42)) : List (S42))).bind fun oI => (if x4.length + oI.length < 8796093022208 then (ai_.l3 k x0 (x4 ++ oI) x5 x6 x7 x60 (wrap64 (x61 + 1))) else (none))) else (none)) else (none))) else (if (x7.length : Int) > 0 then (ai_.l0 k x0 x4 (!x5) (wrap64 (x6 + 1))) else (ai_.l0 k x0 x4 x5 (wrap64 (x6 + 1))))
end
def ai_.f (k : Nat) (l0 : List (S42)) : Option ((List (S42)) × Bool) := (aQ_.f k l0).bind fun zc => (if zc = true then (ai_.l0 k l0 ([] : List (S42)) false 0) else (some (([] : List (S42)), false)))
theorem ai_.mono_l : ∀ k, (∀ y0 y1 y2 y3, LeO (ai_.l0 k y0 y1 y2 y3) (ai_.l0 (k + 1) y0 y1 y2 y3)) ∧ (∀ y0 y1 y2 y3 y4 y5 y6 y7, LeO (ai_.l1 k y0 y1 y2 y3 y4 y5 y6 y7) (ai_.l1 (k + 1) y0 y1 y2 y3 y4 y5 y6 y7)) ∧ (∀ y0 y1 y2 y3 y4 y5 y6 y7 y8 y9 uR, LeO (ai_.l2 k y0 y1 y2 y3 y4 y5 y6 y7 y8 y9 uR) (ai_.l2 (k + 1) y0 y1 y2 y3 y4 y5 y6 y7 y8 y9 uR)) ∧ (∀ y0 y1 y2 y3 y4 y5 y6, LeO (ai_.l3 k y0 y1 y2 y3 y4 y5 y6) (ai_.l3 (k + 1) y0 y1 y2 y3 y4 y5 y6))
 | 0 => ⟨fun _ _ _ _ r h => by simp [ai_.l0] at h, fun _ _ _ _ _ _ _ _ r h => by simp [ai_.l1] at h, fun _ _ _ _ _ _ _ _ _ _ _ r h => by simp [ai_.l2] at h, fun _ _ _ _ _ _ _ r h => by simp [ai_.l3] at h⟩
 | k + 1 => by
  obtain ⟨ih0, ih1, ih2, ih3⟩ := ai_.mono_l k
  refine ⟨?_, ?_, ?_, ?_⟩
  ·intro y0 y1 y2 y3
   unfold ai_.l0
   exact hd_
  ·intro y0 y1 y2 y3 y4 y5 y6 y7
   unfold ai_.l1
   exact hd_
  ·intro y0 y1 y2 y3 y4 y5 y6 y7 y8 y9 uR
   unfold ai_.l2
   exact hd_
  intro y0 y1 y2 y3 y4 y5 y6
  unfold ai_.l3
  exact hd_
theorem ai_.mono : ∀ a0 k, LeO (ai_.f k a0) (ai_.f (k + 1) a0) := by
 intro a0 k
 obtain ⟨ih0, ih1, ih2, ih3⟩ := ai_.mono_l k
 unfold ai_.f
 exact hd_
def ai_.T14 : Bool × List (List Nat × List Nat) := (true, [([], []), ([0], [0]), ([1], [1]), ([2], [2]), ([2], [2]), ([4, 2], [2, 4]), ([3, 5, 2], [2, 3, 5]), ([6, 2], [2, 6]), ([7, 2], [2, 7]), ([2], [2]), ([9, 2], [2, 9]), ([8, 10, 2], [2, 8, 10]), ([2, 11], [2, 11])])
def ai_.B14 : List Nat := [0, 1, 3, 7, 7, 23, 63, 127, 255, 7, 519, 2047, 4095]
theorem ai_.tab14 : bI_ .any (dd_ Tryz.f11 14) = ai_.T14 := by kernel_rfl
theorem ai_.bits14 : bQ_ ai_.T14.2 ai_.B14 = true := by kernel_rfl
def ai_.T16 : Bool × List (List Nat × List Nat) := (true, [([], []), ([], []), ([], []), ([1, 2], [1, 2]), ([0, 3], [0, 3]), ([], []), ([5], [5]), ([4, 6, 4], [4, 6]), ([], []), ([], []), ([8, 9], [8, 9]), ([7, 10, 7], [7, 10]), ([11, 11, 0, 1, 2, 3, 4, 5, 6, 7, 8, 9, 10, 11], [1, 8, 11])])
def ai_.B16 : List Nat := [0, 0, 0, 6, 15, 0, 32, 127, 0, 0, 768, 2047, 4095]
theorem ai_.tab16 : bI_ .any (dd_ Tryz.f11 16) = ai_.T16 := by kernel_rfl
theorem ai_.bits16 : bQ_ ai_.T16.2 ai_.B16 = true := by kernel_rfl
set_option maxHeartbeats 8000000 in
set_option maxRecDepth 100000 in
theorem ai_.calls (k : Nat) (A0 : Option Addr) (c0 : Nat) (l0 : List (S42)) (r1 : List (S42)) (r2 : Bool) (w : World) (hr0 : Kd.C k42 w A0 l0.length l0) (hc0 : l0.length ≤ c0) (h : ai_.f k l0 = some (r1, r2)) :
  Calls Tryz.prog 11 #[.slice A0 l0.length c0] w fun e w' => ∃ v0_ : Value, e = .returned (.tuple #[v0_, .bool r2]) ∧ Kd.R k42 42 w' w.heap.size (fun _ => True) v0_ r1 ∧ Below w.heap.size w w' := by
 have hu42 := Tryz.underlying42
 have HR0 := aa_.mk hr0
 have HC0 := aa_.mk hc0
 clear hr0 hc0
 have HB := aa_.mk (Below.refl w.heap.size w)
 have H := h; unfold ai_.f at H
 clear h
 replace H := bd_ H; obtain ⟨zc, A2, H⟩ := H
 replace H := it_ H; obtain ⟨rfl, H⟩ | ⟨rfl, H⟩ := H
 ·have H' := aa_.mk H
  clear H
  go_enter Tryz.func11, Tryz.ntmps11
  go_wp2_with (((with_reducible refine ae_ (f := 36) rfl ?_); refine gl_ 13 Tryz.func36 #[.slice A0 l0.length c0] ?_; (with_reducible refine (aQ_.calls k _ _ l0 true _ ?_ ?_ A2.out).mono ?_); exact (Z15 HR0); exact HC0.out; rintro e w4 ⟨rfl, hb⟩; refine ⟨_, rfl, ?_⟩; refine k1_ Ws_ ?_; clear HB; intro HB; (try clear hb)))
  (try simp only [Act.put, List.setIfInBounds_toArray, List.set_cons_zero, List.set_cons_succ])
  go_loopg [4, 5, 6] k (fun kq v4 v5 v6 w' => ∃ (aC : List (S42)) (aE : Bool) (br : Int), v5 = .bool aE ∧ v6 = .int .i64 br ∧ aa_ (ai_.l0 kq l0 aC aE br = some (r1, r2)) ∧ aa_ (kq ≤ k) ∧ aa_ (Kd.R k42 42 w' w.heap.size (fun _ => True) v4 aC) ∧ aa_ (Below w.heap.size w w'))
  case atStart => exact ⟨(([] : List (S42))), (false), (0), (Z14), (Z14), H', ⟨Nat.le_refl _⟩, ⟨Z17⟩, ⟨Z2⟩⟩
  case round =>
   clear H'
   obtain ⟨aC, aE, br, rfl, rfl, HA, HK1, ak, HB⟩ := hrel
   cases gk with
   | zero => exact absurd HA.out (by simp [ai_.l0])
   | succ k1 =>
    have H := HA.out
    clear HA
    simp only [ai_.l0] at H
    replace H := iv_ H; obtain ⟨dp, H⟩ | ⟨dp, H⟩ := H
    ·have H' := aa_.mk H
     clear H
     go_wp2
     go_loopg [7, 21] k1 (fun kq v7 GS w' => ∃ (av : List (S42)) (al : Int), GS = .int .i64 al ∧ aa_ (ai_.l1 kq l0 aC aE br av l0 (l0.length : Int) al = some (r1, r2)) ∧ aa_ (kq ≤ k1) ∧ aa_ (Kd.R k42 42 w' w.heap.size (fun k_ => some k_ ≠ (v7 : Value).ownBlock) u4 aC) ∧ aa_ (Kd.R k42 42 w' w.heap.size (fun k_ => some k_ ≠ (u4 : Value).ownBlock) v7 av) ∧ aa_ (Below w.heap.size w w'))
     case atStart => exact ⟨(([] : List (S42))), (0), (Z14), H', ⟨Nat.le_refl _⟩, ⟨og_ ak⟩, ⟨Z17⟩, ⟨Z2⟩⟩
     case round =>
      clear H'
      (try clear dp)
      obtain ⟨av, al, rfl, HA, HK2, ak, aH, HB⟩ := hrel
      cases gk with
      | zero => exact absurd HA.out (by simp [ai_.l1])
      | succ k2 =>
       have H := HA.out
       clear HA
       simp only [ai_.l1] at H
       replace H := iv_ H; obtain ⟨cC, H⟩ | ⟨cC, H⟩ := H
       ·replace H := id_ H; obtain ⟨dJ, H⟩ := H
        replace H := id_ H; obtain ⟨gN, H⟩ := H
        replace H := ic_ H; obtain ⟨gP, pF, H⟩ | ⟨gP, pF, c9, H⟩ := H
        ·have H' := aa_.mk H
         clear H
         obtain ⟨ad452, e452, eF, eG, pG, pH⟩ := ds_ HR0.out HB.out al
         cases e452
         go_wp2_with (((with_reducible refine au_ (N := 9) rfl ?_); refine bv_ 9 42 #[.int .i64 0, .int .i64 0] ?_; intro aG hg jc hbox hb; refine k6_ (Kd.p5_ (Kd.p6_ (Z1 ak) aG (Nat.le_of_eq hg.symm)) hb) (Kd.p5_ (Kd.p6_ (Z1 aH) aG (Nat.le_of_eq hg.symm)) hb) Ws_ (hbox) (Wg_ w aG) (Wg_ w aG) ?_; clear ak aH HB; intro ak aH HB aD GW453 Do; clear hb hbox hg; obtain ⟨fj, gp, fk, gq⟩ := cH_ (w := jc) aD.out; obtain ⟨cO, bw, pI⟩ := Kd.pW_ aH.out; subst pI))
         (try simp only [Act.put, List.setIfInBounds_toArray, List.set_cons_zero, List.set_cons_succ])
         go_loopg [10] k2 (fun kq BZ w' => ∃ (aT : Int), BZ = .int .i64 aT ∧ aa_ (ai_.l2 kq l0 aC aE br av aT l0 (l0.length : Int) al ((ac_ l0 al).f0) ((ac_ l0 al).f1) = some (r1, r2)) ∧ aa_ (kq ≤ k2) ∧ aa_ (Kd.R k42 42 w' w.heap.size (fun k_ => some k_ ≠ ((.slice cO av.length bw) : Value).ownBlock ∧ k_ ≠ aG) u4 aC) ∧ aa_ (Kd.R k42 42 w' w.heap.size (fun k_ => some k_ ≠ (u4 : Value).ownBlock ∧ k_ ≠ aG) (.slice cO av.length bw) av) ∧ aa_ (w'.heap[aG]? = some (.cells #[.int .i64 ((ac_ l0 al).f0), .int .i64 ((ac_ l0 al).f1)] 42 (0, 0))) ∧ aa_ (Below w.heap.size w w'))
         case atStart => exact ⟨((av.length : Int)), (Z14), H', ⟨Nat.le_refl _⟩, ⟨oY_ ak⟩, ⟨oY_ aH⟩, ⟨Z83 aD⟩, ⟨Z13⟩⟩
         case round =>
          clear H'
          (try clear cC); (try clear dJ); (try clear gN); (try clear c9); (try clear gP); (try clear pF); (try clear fj); (try clear gp); (try clear fk); (try clear gq); (try clear eF); (try clear eG); (try clear pG); (try clear pH)
          obtain ⟨aT, rfl, HA, HK3, ak, aH, aD, HB⟩ := hrel
          cases gk with
          | zero => exact absurd HA.out (by simp [ai_.l2])
          | succ k3 =>
           have H := HA.out
           clear HA
           simp only [ai_.l2] at H
           replace H := iw_ H; obtain ⟨c13, H⟩ | ⟨c13, H⟩ := H
           focus
            have ew : decide (0 < aT) = true := decide_eq_true c13
            clear c13
            obtain ⟨cq, hji14⟩ : ∃ j_ : Int, (wrap64 (aT - 1)) = j_ := ⟨_, rfl⟩
            (first | rw [hji14] at H | simp only [hji14] at H)
            have hji14w : (IntKind.i64.wrap (aT - 1)) = cq := (bA_ _).trans hji14
            replace H := id_ H; obtain ⟨dR, H⟩ := H
            replace H := id_ H; obtain ⟨fQ, H⟩ := H
            replace H := iw_ H; obtain ⟨c17, H⟩ | ⟨c17, H⟩ := H
            ·have i2 : decide (((ac_ l0 al).f0) < ((ac_ av (cq)).f0)) = true := decide_eq_true c17
             clear c17
             have H' := aa_.mk H
             clear H
             try go_wp2
             refine k4_ (Kd.pZ_ ak.out) (Kd.pZ_ aH.out) (ax_ aD.out) (av_ HB.out) ?_
             clear ak aH aD HB
             intro ak aH aD HB
             obtain ⟨bW, e454, jY, jZ, uY, uZ⟩ := cg_ (Kd.pV_ aH.out).2.2 (cq)
             cases e454
             refine b2_ (n := 13) (S := fun w' => w'.cell? ⟨aG, 0, none⟩ = some (.int .i64 ((ac_ l0 al).f0)) ∧ w'.cell? ⟨aG, 1, none⟩ = some (.int .i64 ((ac_ l0 al).f1)) ∧ w'.cell? (bW.add (((cq)).toNat * 2)) = some (.int .i64 ((ac_ av (cq)).f0)) ∧ w'.cell? ⟨(bW.add (((cq)).toNat * 2)).block, (bW.add (((cq)).toNat * 2)).off + 1, none⟩ = some (.int .i64 ((ac_ av (cq)).f1))) (ds := []) (M_ 0 13) (by kernel_rfl) rfl rfl ⟨(aE_ aD.out 0).trans rfl, (aE_ aD.out 1).trans rfl, jY, jZ⟩ (fun hHeld => ?_); refine bz_ ai_.tab14 ai_.bits14 (fun HT_ HW_ => ?_)
             generalize wr.drew = Jj at ak aH aD HB jY jZ hHeld ⊢
             refine pu_ 0 31 (M_ 1 12) ?_
             refine pu_ 1 32 (M_ 2 11) ?_
             refine pu_ 2 33 (M_ 3 10) ?_
             refine pu_ 3 34 (M_ 4 9) ?_
             refine pu_ 4 35 (M_ 5 8) ?_
             refine pu_ 5 36 (M_ 6 7) ?_
             refine pu_ 6 37 (M_ 7 6) ?_
             refine pu_ 7 38 (M_ 8 5) ?_
             refine pu_ 9 40 (N_ 13 767) ?_
             refine eF_ 8 39 (M_ 10 3) hHeld ?_
             refine eF_ 10 41 (M_ 11 2) hHeld ?_
             refine pu_ 11 42 (M_ 12 1) ?_
             refine pu_ 12 43 (M_ 13 0) ?_
             refine cw_ (bS_ HT_.out (by kernel_rfl)) ?_
             try go_wp2
             go_roundg k3
             case measure => have := HK1.out; have := HK2.out; have := HK3.out; omega
             case rel => exact ⟨(cq), (by first | rfl | (simp; done) | (simp only [← hji14] <;> (first | rfl | simp)) | (simp [*]; done)), H', ⟨fK_⟩, ⟨Z1 ak⟩, ⟨Z1 aH⟩, ⟨Z5 aD⟩, ⟨Z13⟩⟩
            have i2 : decide (((ac_ l0 al).f0) < ((ac_ av (cq)).f0)) = false := decide_eq_false c17
            clear c17
            replace H := lt_ H; obtain ⟨jk, wq, H⟩ := H
            replace H := ie_ H; obtain ⟨mm, c19b1, H⟩ := H
            replace H := ie_ H; obtain ⟨dS, DF, H⟩ := H
            replace H := lt_ H; obtain ⟨dK, mq, H⟩ := H
            replace H := ia_ H; obtain ⟨ry, H⟩ := H
            replace H := lt_ H; obtain ⟨fI, zd, H⟩ := H
            replace H := lt_ H; obtain ⟨dq, o3, H⟩ := H
            replace H := ia_ H; obtain ⟨ze, H⟩ := H
            replace H := lt_ H; obtain ⟨em, Ny468, H⟩ := H
            have zf := eq_true (of_decide_eq_true (Z8) : 0 ≤ aT)
            have zg := eq_true (of_decide_eq_true (Z8) : aT ≤ (av.length : Int))
            replace H := lt_ H; obtain ⟨cD, mr, H⟩ := H
            replace H := ia_ H; obtain ⟨rD, H⟩ := H
            generalize e_ : ((em ++ cD) : List (S42)) = JM at H
            have Ny475 := aa_.mk e_.symm; clear e_
            have H' := aa_.mk H
            clear H
            try go_wp2
            refine k4_ (Kd.pZ_ ak.out) (Kd.pZ_ aH.out) (ax_ aD.out) (av_ HB.out) ?_
            clear ak aH aD HB
            intro ak aH aD HB
            obtain ⟨bW, e454, jY, jZ, uY, uZ⟩ := cg_ (Kd.pV_ aH.out).2.2 (cq)
            cases e454
            refine b2_ (n := 13) (S := fun w' => w'.cell? ⟨aG, 0, none⟩ = some (.int .i64 ((ac_ l0 al).f0)) ∧ w'.cell? ⟨aG, 1, none⟩ = some (.int .i64 ((ac_ l0 al).f1)) ∧ w'.cell? (bW.add (((cq)).toNat * 2)) = some (.int .i64 ((ac_ av (cq)).f0)) ∧ w'.cell? ⟨(bW.add (((cq)).toNat * 2)).block, (bW.add (((cq)).toNat * 2)).off + 1, none⟩ = some (.int .i64 ((ac_ av (cq)).f1))) (ds := []) (M_ 0 13) (by kernel_rfl) rfl rfl ⟨(aE_ aD.out 0).trans rfl, (aE_ aD.out 1).trans rfl, jY, jZ⟩ (fun hHeld => ?_); refine bz_ ai_.tab14 ai_.bits14 (fun HT_ HW_ => ?_)
            generalize wr.drew = GT at ak aH aD HB jY jZ hHeld ⊢
            refine pu_ 0 31 (M_ 1 12) ?_
            refine pu_ 1 32 (M_ 2 11) ?_
            refine pu_ 2 33 (M_ 3 10) ?_
            refine pu_ 3 34 (M_ 4 9) ?_
            refine pu_ 4 35 (M_ 5 8) ?_
            refine pu_ 5 36 (M_ 6 7) ?_
            refine pu_ 6 37 (M_ 7 6) ?_
            refine pu_ 7 38 (M_ 8 5) ?_
            refine pu_ 9 40 (N_ 13 767) ?_
            refine eF_ 8 39 (M_ 10 3) hHeld ?_
            refine eF_ 10 41 (M_ 11 2) hHeld ?_
            refine pu_ 11 42 (M_ 12 1) ?_
            refine pu_ 12 43 (M_ 13 0) ?_
            refine cw_ (bS_ HT_.out (by kernel_rfl)) ?_
            try go_wp2
            generalize some bW = cO at ak aH ⊢
           rotate_left
           focus
            have ew : decide (0 < aT) = false := decide_eq_false c13
            clear c13
            with_reducible replace H := lt_ H; obtain ⟨jk, wq, H⟩ := H
            replace H := ie_ H; obtain ⟨zi, zj, H⟩ := H
            replace H := ie_ H; obtain ⟨c40b0, c40b1, H⟩ := H
            replace H := lt_ H; obtain ⟨dK, mq, H⟩ := H
            replace H := ia_ H; obtain ⟨ry, H⟩ := H
            replace H := lt_ H; obtain ⟨fI, zd, H⟩ := H
            replace H := lt_ H; obtain ⟨dq, o3, H⟩ := H
            replace H := ia_ H; obtain ⟨ze, H⟩ := H
            replace H := lt_ H; obtain ⟨em, Ny468, H⟩ := H
            have c43b0 := eq_true (of_decide_eq_true (Z8) : 0 ≤ aT)
            have zm := eq_true (of_decide_eq_true (Z8) : aT ≤ (av.length : Int))
            replace H := lt_ H; obtain ⟨cD, mr, H⟩ := H
            replace H := ia_ H; obtain ⟨rD, H⟩ := H
            generalize e_ : ((em ++ cD) : List (S42)) = JM at H
            have Ny475 := aa_.mk e_.symm; clear e_
            have H' := aa_.mk H
            clear H
            try go_wp2
            refine k4_ (Kd.pZ_ ak.out) (Kd.pZ_ aH.out) (ax_ aD.out) (av_ HB.out) ?_
            clear ak aH aD HB
            intro ak aH aD HB
            refine b2_ (n := 13) (S := fun w' => True) (ds := []) (M_ 0 13) (by kernel_rfl) rfl rfl trivial (fun hHeld => ?_); refine bz_ ai_.tab14 ai_.bits14 (fun HT_ HW_ => ?_)
            generalize wr.drew = GT at ak aH aD HB hHeld ⊢
            refine pu_ 0 31 (M_ 1 12) ?_
            refine pu_ 1 32 (M_ 2 11) ?_
            refine pu_ 2 33 (M_ 3 10) ?_
            refine pn_ 3 34 (M_ 4 9) ?_
            refine pn_ 4 35 (M_ 5 8) ?_
            refine pn_ 5 36 (M_ 6 7) ?_
            refine pn_ 6 37 (M_ 7 6) ?_
            refine pn_ 7 38 (M_ 8 5) ?_
            refine pn_ 8 39 (M_ 9 4) ?_
            refine pn_ 9 40 (M_ 10 3) ?_
            refine pn_ 10 41 (M_ 11 2) ?_
            refine pn_ 11 42 (M_ 12 1) ?_
            refine pu_ 12 43 (M_ 13 0) ?_
            refine cw_ (bS_ HT_.out (by kernel_rfl)) ?_
            try go_wp2
           all_goals
            refine k4_ (Kd.pZ_ ak.out) (Kd.pZ_ aH.out) (ax_ aD.out) (av_ HB.out) ?_
            clear ak aH aD HB
            intro ak aH aD HB
            have DG : (aT : Int) ≤ ((av.length : Int) : Int) := of_decide_eq_true (Z8)
            obtain ⟨i028, hi028, _, hsz28, _⟩ := info_parts fQ_
            have hroom28 : av.length ≤ bw := (Kd.pV_ aH.out).2.1
            have hC28 : Kd.C k42 _ cO av.length av := (Kd.pV_ aH.out).2.2
            have hcut28 := go_ (P := Tryz.prog) 26 42 .i64 Tryz.underlying26 hi028 cO av.length bw aT (of_decide_eq_true (Z8)) DG hroom28
            have hr28 := Kd.qi_ (m := (aT : Int).toNat) hC28 (by omega)
            have u0 : dK.length = (aT : Int).toNat := (je_ mq)
            rw [← mq.out] at hr28
            rw [← u0] at hcut28
            have HR461 := aa_.mk hr28
            have HC461 := aa_.mk (show dK.length ≤ bw from by omega)
            clear hr28 hC28 hroom28 hi028 hsz28
            have KY28 := aa_.mk u0
            clear u0
            have KL28 := aa_.mk (show (aT : Int).toNat ≤ av.length from by omega)
            replace DG := eq_true DG
            have BV : (aT : Int) ≤ ((av.length : Int) : Int) := of_decide_eq_true (Z8)
            obtain ⟨i029, hi029, _, hsz29, _⟩ := info_parts fQ_
            have hroom29 : av.length ≤ bw := (Kd.pV_ aH.out).2.1
            have hC29 : Kd.C k42 _ cO av.length av := (Kd.pV_ aH.out).2.2
            have q029 : (0 : Int) ≤ (aT : Int) := of_decide_eq_true (Z8)
            have hcut29 := jI_ (P := Tryz.prog) 26 42 .i64 Tryz.underlying26 hi029 2 hsz29 cO av.length bw aT q029 BV
            have hr29 := Kd.ql_ (m := (aT : Int).toNat) (c := bw) hC29 (by omega) hroom29
            obtain ⟨lO, hA29⟩ : ∃ A1, A1 = (if bw = (aT : Int).toNat then cO else (cO : Option Addr).map (·.add ((aT : Int).toNat * 2))) := ⟨_, rfl⟩
            obtain ⟨c29, hc29⟩ : ∃ c1, c1 = bw - (aT : Int).toNat := ⟨_, rfl⟩
            have qI : cD.length = av.length - (aT : Int).toNat := (by rw [mr.out, List.length_drop] <;> omega)
            rw [show (av).drop (aT : Int).toNat = cD from mr.out.symm] at hr29
            replace hr29 : Kd.C k42 _ lO cD.length cD := (by rw [hA29]; exact hr29)
            rw [← qI, ← hA29, ← hc29] at hcut29
            have HR474 := aa_.mk hr29
            have HC474 := aa_.mk (show cD.length ≤ c29 from by rw [qI, hc29]; exact Nat.sub_le_sub_right hroom29 _)
            clear hr29 hC29 hroom29 hi029 hsz29 hc29
            have KY29 := aa_.mk qI
            have xm := aa_.mk hA29
            clear qI hA29
            have KL29 := aa_.mk (show (aT : Int).toNat ≤ av.length from by omega)
            replace BV := eq_true BV
            refine b2_ (n := 13) (S := fun w' => w'.cell? ⟨aG, 0, none⟩ = some (.int .i64 ((ac_ l0 al).f0)) ∧ w'.cell? ⟨aG, 1, none⟩ = some (.int .i64 ((ac_ l0 al).f1))) (ds := []) (M_ 0 13) (by kernel_rfl) rfl rfl (et_ aD.out) (fun hHeld => ?_); refine bz_ ai_.tab16 ai_.bits16 (fun HT_ HW_ => ?_)
            generalize GT.drew = w27 at ak aH aD HB HR461 HR474 hHeld ⊢
            refine pu_ 1 47 (N_ 13 2) ?_
            refine pu_ 2 48 (N_ 13 6) ?_
            refine pu_ 3 49 (N_ 13 14) ?_
            refine pu_ 8 54 (N_ 13 270) ?_
            refine pu_ 9 55 (N_ 13 782) ?_
            refine pu_ 10 56 (N_ 13 1806) ?_
            refine mB_ 5 51 (N_ 13 1838) hHeld ?_
            refine iV_ (σ := Value × Value × Value) 3 (N_ 13 1919) (fun s_ => [(46, s_.1), (50, s_.2.1), (52, s_.2.2)]) (fun s_ w' => (w'.cell? ⟨aG, 0, none⟩ = some (.int .i64 ((ac_ l0 al).f0)) ∧ w'.cell? ⟨aG, 1, none⟩ = some (.int .i64 ((ac_ l0 al).f1))) ∧ (Kd.R k42 42 w' w.heap.size (fun k_ => some k_ ≠ (s_.2.2 : Value).ownBlock ∧ some k_ ≠ (u4 : Value).ownBlock ∧ some k_ ≠ (.slice cO av.length bw : Value).ownBlock ∧ k_ ≠ aG) s_.2.1 fI) ∧ (Kd.R k42 42 w' w.heap.size (fun k_ => some k_ ≠ (s_.2.1 : Value).ownBlock ∧ some k_ ≠ (u4 : Value).ownBlock ∧ some k_ ≠ (.slice cO av.length bw : Value).ownBlock ∧ k_ ≠ aG) s_.2.2 dq) ∧ (Kd.R k42 42 w' w.heap.size (fun k_ => some k_ ≠ (s_.2.1 : Value).ownBlock ∧ some k_ ≠ (s_.2.2 : Value).ownBlock ∧ some k_ ≠ (.slice cO av.length bw : Value).ownBlock ∧ k_ ≠ aG) u4 aC) ∧ (Kd.R k42 42 w' w.heap.size (fun k_ => some k_ ≠ (s_.2.1 : Value).ownBlock ∧ some k_ ≠ (s_.2.2 : Value).ownBlock ∧ some k_ ≠ (u4 : Value).ownBlock ∧ k_ ≠ aG) (.slice cO av.length bw) av) ∧ (w'.heap[aG]? = some (.cells #[.int .i64 ((ac_ l0 al).f0), .int .i64 ((ac_ l0 al).f1)] 42 (0, 0))) ∧ (Below w.heap.size w w')) ?_ ?_
            rotate_left
            ·intro hCont
             refine gn_ (i := 0) (j := 6) (Ni := some 46) (Nj := some 52) (N_ 13 1839) (N_ 13 1902) rfl rfl rfl rfl (eW_ HT_.out (by kernel_rfl)) (by decide) (by decide) (fun K hK => ?_) (fun K hK => ?_)
             ·skip
              refine ls_ k42 42 46 ([] : List (S42)) [] (aH_.none _ _) ?_
              intro rF iG ho31 hb hg_ hnew_
              clear hg_ hnew_
              (first | rw [← wq.out] at ho31 | (simp only [Int.reduceToNat] at ho31; rw [← wq.out] at ho31))
              refine k7_ (We_ ak ho31) (We_ aH ho31) (Kd.pY_ (Kd.qa_ (Kd.p3_ (Kd.p3_ ho31 (Yd_ ak)) (Yd_ aH)) (zo_ aD)) (ao_ (Z13))) (Ye_ aD) (Kd.p7_ (Z11 HR461) hb) (Kd.p7_ (Z11 HR474) hb) (aq_ (Z13) hb) ?_
              clear ak aH aD HR461 HR474 HB
              intro ak aH fq aD HR461 HR474 HB
              clear hb ho31
              refine hK.out _ _ (et_ aD.out) (fun hHeld => ?_)
              clear hK K
              refine nm_ 46 ?_
              refine gn_ (i := 4) (j := 6) (Ni := some 50) (Nj := some 52) (N_ 13 1855) (N_ 13 1903) rfl rfl rfl rfl (eW_ HT_.out (by kernel_rfl)) (by decide) (by decide) (fun K hK => ?_) (fun K hK => ?_)
              ·skip
               refine ht_ (w0 := w) w.heap.size (.tmp 46) (.tmp 49) rF jk dK (fun k_ => some k_ ≠ (u4 : Value).ownBlock ∧ some k_ ≠ (.slice cO av.length bw : Value).ownBlock ∧ k_ ≠ aG) rfl rfl ?aO ?aR ?aF ?aB ?aS ?aL ?_
               (case aR => exact ms_)
               (case aB => exact Z13)
               (case aF => exact (fun k_ hk => ⟨Kd.fresh' (Yd_ ak) k_ hk, Kd.fresh' (Yd_ aH) k_ hk, Kd.freshB (zo_ aD) k_ hk⟩))
               (case aO => exact (oA_ fq))
               (case aS => exact (ao_ (Z13)))
               (case aL => exact Z91 ry)
               intro nR wo ho hb hg hat
               rw [← zd.out] at ho
               refine k7_ (Kd.p2_ (ok := (fun k_ => some k_ ≠ (.slice cO av.length bw : Value).ownBlock ∧ k_ ≠ aG)) (Z1 ak) hg hat) (Kd.p2_ (ok := (fun k_ => some k_ ≠ (u4 : Value).ownBlock ∧ k_ ≠ aG)) (Z1 aH) hg hat) (bg_ (zo_ aD) hg (Kd.qh_ fq.out (fun _ hk => hk.2))) (hb) ((show Kd.C k42 wo cO dK.length dK from by rw [mq.out]; exact Kd.qi_ (m := (aT : Int).toNat) ((Kd.pV_ (Kd.p2_ (ok := (fun k_ => some k_ ≠ (u4 : Value).ownBlock ∧ k_ ≠ aG)) (Z1 aH) hg hat)).2.2) KL28.out)) ((show Kd.C k42 wo lO cD.length cD from by rw [mr.out, xm.out]; exact Kd.ql_ (m := (aT : Int).toNat) (c := bw) ((Kd.pV_ (Kd.p2_ (ok := (fun k_ => some k_ ≠ (u4 : Value).ownBlock ∧ k_ ≠ aG)) (Z1 aH) hg hat)).2.2) KL29.out ((Kd.pV_ (Kd.p2_ (ok := (fun k_ => some k_ ≠ (u4 : Value).ownBlock ∧ k_ ≠ aG)) (Z1 aH) hg hat)).2.1))) (ho) ?_
               clear ak aH aD HB HR461 HR474 fq
               intro ak aH aD HB HR461 HR474 fS
               clear ho hb hg hat
               refine hK.out _ _ (et_ aD.out) (fun hHeld => ?_)
               clear hK K
               refine nm_ 50 ?_
               refine on_ 6 (some 52) (N_ 13 1919) (fun K hK => ?_)
               refine ls_ k42 42 52 ([(⟨((ac_ l0 al).f0), ((ac_ l0 al).f1)⟩ : S42)] : List (S42)) [.int .i64 ((ac_ l0 al).f0), .int .i64 ((ac_ l0 al).f1)] (aH_.c2 (show Kd.M k42 _ _ _ (⟨((ac_ l0 al).f0), ((ac_ l0 al).f1)⟩ : S42) [.int .i64 ((ac_ l0 al).f0), .int .i64 ((ac_ l0 al).f1)] from (cy_ _ _ _ (⟨((ac_ l0 al).f0), ((ac_ l0 al).f1)⟩ : S42) )) (aH_.none _ _)) ?_
               intro e9 m9 ho34 hb hg_ hnew_
               clear hg_ hnew_
               (first | rw [← o3.out] at ho34 | (simp only [Int.reduceToNat] at ho34; rw [← o3.out] at ho34))
               refine k8_ (We_ ak ho34) (We_ aH ho34) (We_ fS ho34) (Kd.pY_ (Kd.qa_ (Kd.p3_ (Kd.p3_ (Kd.p3_ ho34 (Yd_ ak)) (Yd_ aH)) (Yd_ fS)) (zo_ aD)) (ao_ (Z13))) (Ye_ aD) (Kd.p7_ (Z11 HR461) hb) (Kd.p7_ (Z11 HR474) hb) (aq_ (Z13) hb) ?_
               clear ak aH fS aD HR461 HR474 HB
               intro ak aH fS cI aD HR461 HR474 HB
               clear hb ho34
               refine hK.out _ _ (et_ aD.out) (fun hHeld => ?_)
               clear hK K
               refine nm_ 52 ?_
               exact dk_ (Z58) (hCont (rF, nR, e9) _ ⟨hHeld, (Z90 fS), (pA_ cI), (oH_ ak), (oH_ aH), (Z5 aD), (Z13)⟩)
              skip
              refine ls_ k42 42 52 ([(⟨((ac_ l0 al).f0), ((ac_ l0 al).f1)⟩ : S42)] : List (S42)) [.int .i64 ((ac_ l0 al).f0), .int .i64 ((ac_ l0 al).f1)] (aH_.c2 (show Kd.M k42 _ _ _ (⟨((ac_ l0 al).f0), ((ac_ l0 al).f1)⟩ : S42) [.int .i64 ((ac_ l0 al).f0), .int .i64 ((ac_ l0 al).f1)] from (cy_ _ _ _ (⟨((ac_ l0 al).f0), ((ac_ l0 al).f1)⟩ : S42) )) (aH_.none _ _)) ?_
              intro e9 wo ho33 hb hg_ hnew_
              clear hg_ hnew_
              (first | rw [← o3.out] at ho33 | (simp only [Int.reduceToNat] at ho33; rw [← o3.out] at ho33))
              refine k8_ (We_ ak ho33) (We_ aH ho33) (We_ fq ho33) (Kd.pY_ (Kd.qa_ (Kd.p3_ (Kd.p3_ (Kd.p3_ ho33 (Yd_ ak)) (Yd_ aH)) (Yd_ fq)) (zo_ aD)) (ao_ (Z13))) (Ye_ aD) (Kd.p7_ (Z11 HR461) hb) (Kd.p7_ (Z11 HR474) hb) (aq_ (Z13) hb) ?_
              clear ak aH fq aD HR461 HR474 HB
              intro ak aH fq cI aD HR461 HR474 HB
              clear hb ho33
              refine hK.out _ _ (et_ aD.out) (fun hHeld => ?_)
              clear hK K
              refine nm_ 52 ?_
              refine on_ 4 (some 50) (N_ 13 1919) (fun K hK => ?_)
              refine ht_ (w0 := w) w.heap.size (.tmp 46) (.tmp 49) rF jk dK (fun k_ => some k_ ≠ (u4 : Value).ownBlock ∧ some k_ ≠ (.slice cO av.length bw : Value).ownBlock ∧ some k_ ≠ (e9 : Value).ownBlock ∧ k_ ≠ aG) rfl rfl ?aO ?aR ?aF ?aB ?aS ?aL ?_
              (case aR => exact ms_)
              (case aB => exact Z13)
              (case aF => exact (fun k_ hk => ⟨Kd.fresh' (Yd_ ak) k_ hk, Kd.fresh' (Yd_ aH) k_ hk, Kd.fresh' (Yd_ cI) k_ hk, Kd.freshB (zo_ aD) k_ hk⟩))
              (case aO => exact (pq_ fq))
              (case aS => exact (ao_ (Z13)))
              (case aL => exact Z91 ry)
              intro nR ws ho hb hg hat
              rw [← zd.out] at ho
              refine k8_ (Kd.p2_ (ok := (fun k_ => some k_ ≠ (.slice cO av.length bw : Value).ownBlock ∧ some k_ ≠ (e9 : Value).ownBlock ∧ k_ ≠ aG)) (Z64 ak) hg hat) (Kd.p2_ (ok := (fun k_ => some k_ ≠ (u4 : Value).ownBlock ∧ some k_ ≠ (e9 : Value).ownBlock ∧ k_ ≠ aG)) (Z64 aH) hg hat) (bg_ (zo_ aD) hg (Kd.qh_ fq.out (fun _ hk => hk.1.2))) (Kd.p2_ (ok := (fun k_ => some k_ ≠ (u4 : Value).ownBlock ∧ some k_ ≠ (.slice cO av.length bw : Value).ownBlock ∧ k_ ≠ aG)) (pH_ cI) hg hat) (hb) ((show Kd.C k42 ws cO dK.length dK from by rw [mq.out]; exact Kd.qi_ (m := (aT : Int).toNat) ((Kd.pV_ (Kd.p2_ (ok := (fun k_ => some k_ ≠ (u4 : Value).ownBlock ∧ some k_ ≠ (e9 : Value).ownBlock ∧ k_ ≠ aG)) (Z64 aH) hg hat)).2.2) KL28.out)) ((show Kd.C k42 ws lO cD.length cD from by rw [mr.out, xm.out]; exact Kd.ql_ (m := (aT : Int).toNat) (c := bw) ((Kd.pV_ (Kd.p2_ (ok := (fun k_ => some k_ ≠ (u4 : Value).ownBlock ∧ some k_ ≠ (e9 : Value).ownBlock ∧ k_ ≠ aG)) (Z64 aH) hg hat)).2.2) KL29.out ((Kd.pV_ (Kd.p2_ (ok := (fun k_ => some k_ ≠ (u4 : Value).ownBlock ∧ some k_ ≠ (e9 : Value).ownBlock ∧ k_ ≠ aG)) (Z64 aH) hg hat)).2.1))) (ho) ?_
              clear ak aH aD cI HB HR461 HR474 fq
              intro ak aH aD cI HB HR461 HR474 fS
              clear ho hb hg hat
              refine hK.out _ _ (et_ aD.out) (fun hHeld => ?_)
              clear hK K
              refine nm_ 50 ?_
              exact dk_ (Z58) (hCont (rF, nR, e9) _ ⟨hHeld, (o9_ fS), (Z90 cI), (Z78 ak), (Z78 aH), (Z5 aD), (Z13)⟩)
             skip
             refine ls_ k42 42 52 ([(⟨((ac_ l0 al).f0), ((ac_ l0 al).f1)⟩ : S42)] : List (S42)) [.int .i64 ((ac_ l0 al).f0), .int .i64 ((ac_ l0 al).f1)] (aH_.c2 (show Kd.M k42 _ _ _ (⟨((ac_ l0 al).f0), ((ac_ l0 al).f1)⟩ : S42) [.int .i64 ((ac_ l0 al).f0), .int .i64 ((ac_ l0 al).f1)] from (cy_ _ _ _ (⟨((ac_ l0 al).f0), ((ac_ l0 al).f1)⟩ : S42) )) (aH_.none _ _)) ?_
             intro e9 iG ho31 hb hg_ hnew_
             clear hg_ hnew_
             (first | rw [← o3.out] at ho31 | (simp only [Int.reduceToNat] at ho31; rw [← o3.out] at ho31))
             refine k7_ (We_ ak ho31) (We_ aH ho31) (Kd.pY_ (Kd.qa_ (Kd.p3_ (Kd.p3_ ho31 (Yd_ ak)) (Yd_ aH)) (zo_ aD)) (ao_ (Z13))) (Ye_ aD) (Kd.p7_ (Z11 HR461) hb) (Kd.p7_ (Z11 HR474) hb) (aq_ (Z13) hb) ?_
             clear ak aH aD HR461 HR474 HB
             intro ak aH cI aD HR461 HR474 HB
             clear hb ho31
             refine hK.out _ _ (et_ aD.out) (fun hHeld => ?_)
             clear hK K
             refine nm_ 52 ?_
             refine on_ 0 (some 46) (N_ 13 1903) (fun K hK => ?_)
             refine ls_ k42 42 46 ([] : List (S42)) [] (aH_.none _ _) ?_
             intro rF wo ho33 hb hg_ hnew_
             clear hg_ hnew_
             (first | rw [← wq.out] at ho33 | (simp only [Int.reduceToNat] at ho33; rw [← wq.out] at ho33))
             refine k8_ (We_ ak ho33) (We_ aH ho33) (We_ cI ho33) (Kd.pY_ (Kd.qa_ (Kd.p3_ (Kd.p3_ (Kd.p3_ ho33 (Yd_ ak)) (Yd_ aH)) (Yd_ cI)) (zo_ aD)) (ao_ (Z13))) (Ye_ aD) (Kd.p7_ (Z11 HR461) hb) (Kd.p7_ (Z11 HR474) hb) (aq_ (Z13) hb) ?_
             clear ak aH cI aD HR461 HR474 HB
             intro ak aH cI fq aD HR461 HR474 HB
             clear hb ho33
             refine hK.out _ _ (et_ aD.out) (fun hHeld => ?_)
             clear hK K
             refine nm_ 46 ?_
             refine on_ 4 (some 50) (N_ 13 1919) (fun K hK => ?_)
             refine ht_ (w0 := w) w.heap.size (.tmp 46) (.tmp 49) rF jk dK (fun k_ => some k_ ≠ (u4 : Value).ownBlock ∧ some k_ ≠ (.slice cO av.length bw : Value).ownBlock ∧ some k_ ≠ (e9 : Value).ownBlock ∧ k_ ≠ aG) rfl rfl ?aO ?aR ?aF ?aB ?aS ?aL ?_
             (case aR => exact ms_)
             (case aB => exact Z13)
             (case aF => exact (fun k_ hk => ⟨Kd.fresh' (Yd_ ak) k_ hk, Kd.fresh' (Yd_ aH) k_ hk, Kd.fresh' (Yd_ cI) k_ hk, Kd.freshB (zo_ aD) k_ hk⟩))
             (case aO => exact (pJ_ fq))
             (case aS => exact (ao_ (Z13)))
             (case aL => exact Z91 ry)
             intro nR ws ho hb hg hat
             rw [← zd.out] at ho
             refine k8_ (Kd.p2_ (ok := (fun k_ => some k_ ≠ (.slice cO av.length bw : Value).ownBlock ∧ some k_ ≠ (e9 : Value).ownBlock ∧ k_ ≠ aG)) (Z65 ak) hg hat) (Kd.p2_ (ok := (fun k_ => some k_ ≠ (u4 : Value).ownBlock ∧ some k_ ≠ (e9 : Value).ownBlock ∧ k_ ≠ aG)) (Z65 aH) hg hat) (bg_ (zo_ aD) hg (Kd.qh_ fq.out (fun _ hk => hk.2))) (Kd.p2_ (ok := (fun k_ => some k_ ≠ (u4 : Value).ownBlock ∧ some k_ ≠ (.slice cO av.length bw : Value).ownBlock ∧ k_ ≠ aG)) (pp_ cI) hg hat) (hb) ((show Kd.C k42 ws cO dK.length dK from by rw [mq.out]; exact Kd.qi_ (m := (aT : Int).toNat) ((Kd.pV_ (Kd.p2_ (ok := (fun k_ => some k_ ≠ (u4 : Value).ownBlock ∧ some k_ ≠ (e9 : Value).ownBlock ∧ k_ ≠ aG)) (Z65 aH) hg hat)).2.2) KL28.out)) ((show Kd.C k42 ws lO cD.length cD from by rw [mr.out, xm.out]; exact Kd.ql_ (m := (aT : Int).toNat) (c := bw) ((Kd.pV_ (Kd.p2_ (ok := (fun k_ => some k_ ≠ (u4 : Value).ownBlock ∧ some k_ ≠ (e9 : Value).ownBlock ∧ k_ ≠ aG)) (Z65 aH) hg hat)).2.2) KL29.out ((Kd.pV_ (Kd.p2_ (ok := (fun k_ => some k_ ≠ (u4 : Value).ownBlock ∧ some k_ ≠ (e9 : Value).ownBlock ∧ k_ ≠ aG)) (Z65 aH) hg hat)).2.1))) (ho) ?_
             clear ak aH aD cI HB HR461 HR474 fq
             intro ak aH aD cI HB HR461 HR474 fS
             clear ho hb hg hat
             refine hK.out _ _ (et_ aD.out) (fun hHeld => ?_)
             clear hK K
             refine nm_ 50 ?_
             exact dk_ (Z58) (hCont (rF, nR, e9) _ ⟨hHeld, (o9_ fS), (Z90 cI), (Z78 ak), (Z78 aH), (Z5 aD), (Z13)⟩)
            rintro ⟨rF, nR, e9⟩ lN ⟨hS_, h0_, h1_, h2_, h3_, h4_, h5_⟩
            refine k6_ (show Kd.R k42 42 lN w.heap.size (fun k_ => some k_ ≠ (e9 : Value).ownBlock ∧ some k_ ≠ (u4 : Value).ownBlock ∧ some k_ ≠ (.slice cO av.length bw : Value).ownBlock ∧ k_ ≠ aG) nR fI from h0_) (show Kd.R k42 42 lN w.heap.size (fun k_ => some k_ ≠ (nR : Value).ownBlock ∧ some k_ ≠ (u4 : Value).ownBlock ∧ some k_ ≠ (.slice cO av.length bw : Value).ownBlock ∧ k_ ≠ aG) e9 dq from h1_) (show Kd.R k42 42 lN w.heap.size (fun k_ => some k_ ≠ (nR : Value).ownBlock ∧ some k_ ≠ (e9 : Value).ownBlock ∧ some k_ ≠ (.slice cO av.length bw : Value).ownBlock ∧ k_ ≠ aG) u4 aC from h2_) (show Kd.R k42 42 lN w.heap.size (fun k_ => some k_ ≠ (nR : Value).ownBlock ∧ some k_ ≠ (e9 : Value).ownBlock ∧ some k_ ≠ (u4 : Value).ownBlock ∧ k_ ≠ aG) (.slice cO av.length bw) av from h3_) (show lN.heap[aG]? = some (.cells #[.int .i64 ((ac_ l0 al).f0), .int .i64 ((ac_ l0 al).f1)] 42 (0, 0)) from h4_) (show Below w.heap.size w lN from h5_) ?_
            clear ak aH aD HB h0_ h1_ h2_ h3_ h4_ h5_
            intro fS cI ak aH aD HB
            have hHeld : lN.cell? ⟨aG, 0, none⟩ = some (.int .i64 ((ac_ l0 al).f0)) ∧ lN.cell? ⟨aG, 1, none⟩ = some (.int .i64 ((ac_ l0 al).f1)) := hS_
            have n_ := aa_.mk (show Kd.C k42 _ cO dK.length dK from by rw [mq.out]; exact Kd.qi_ (m := (aT : Int).toNat) ((Kd.pV_ aH.out).2.2) KL28.out)
            (try clear HR461)
            have HR461 := n_
            clear n_
            have n_ := aa_.mk (show Kd.C k42 _ lO cD.length cD from by rw [mr.out, xm.out]; exact Kd.ql_ (m := (aT : Int).toNat) (c := bw) ((Kd.pV_ aH.out).2.2) KL29.out ((Kd.pV_ aH.out).2.1))
            (try clear HR474)
            have HR474 := n_
            clear n_
            obtain ⟨eW, eh, mL⟩ := Kd.pW_ cI.out
            (first | subst mL | (injection mL with f1_ f2_ f3_; have f4_ := f1_.symm; have f5_ := f3_.symm; clear f1_ f2_ f3_; subst f4_; subst f5_))
            refine dk_ (a' := ?_) ?_ ?_
            rotate_left
            ·simp only [e0_, Act.put, List.setIfInBounds_toArray, List.set_cons_zero, List.set_cons_succ]
             rfl
            refine on_ 7 (some 53) (M_ 11 2) (fun K hK => ?_)
            refine ht_ (w0 := w) w.heap.size (.tmp 50) (.tmp 52) nR fI dq (fun k_ => some k_ ≠ (u4 : Value).ownBlock ∧ some k_ ≠ (.slice cO av.length bw : Value).ownBlock ∧ some k_ ≠ (.slice eW dq.length eh : Value).ownBlock ∧ k_ ≠ aG) rfl rfl ?aO ?aR ?aF ?aB ?aS ?aL ?_
            (case aR => exact Z3 cI)
            (case aB => exact Z13)
            (case aF => exact (fun k_ hk => ⟨Kd.fresh' (Yd_ ak) k_ hk, Kd.fresh' (Yd_ aH) k_ hk, Kd.fresh' (Yd_ cI) k_ hk, Kd.freshB (zo_ aD) k_ hk⟩))
            (case aO => exact (pF_ fS))
            (case aS => exact (ao_ (Z13)))
            (case aL => exact Z91 ze)
            intro v469 GU ho hb hg hat
            rw [← Ny468.out] at ho
            refine k8_ (Kd.p2_ (ok := (fun k_ => some k_ ≠ (.slice cO av.length bw : Value).ownBlock ∧ some k_ ≠ (.slice eW dq.length eh : Value).ownBlock ∧ k_ ≠ aG)) (Z66 ak) hg hat) (Kd.p2_ (ok := (fun k_ => some k_ ≠ (u4 : Value).ownBlock ∧ some k_ ≠ (.slice eW dq.length eh : Value).ownBlock ∧ k_ ≠ aG)) (Z66 aH) hg hat) (bg_ (zo_ aD) hg (Kd.qh_ fS.out (fun _ hk => hk.2.2.2))) (Kd.p2_ (ok := (fun k_ => some k_ ≠ (u4 : Value).ownBlock ∧ some k_ ≠ (.slice cO av.length bw : Value).ownBlock ∧ k_ ≠ aG)) (pL_ cI) hg hat) (hb) ((show Kd.C k42 GU cO dK.length dK from by rw [mq.out]; exact Kd.qi_ (m := (aT : Int).toNat) ((Kd.pV_ (Kd.p2_ (ok := (fun k_ => some k_ ≠ (u4 : Value).ownBlock ∧ some k_ ≠ (.slice eW dq.length eh : Value).ownBlock ∧ k_ ≠ aG)) (Z66 aH) hg hat)).2.2) KL28.out)) ((show Kd.C k42 GU lO cD.length cD from by rw [mr.out, xm.out]; exact Kd.ql_ (m := (aT : Int).toNat) (c := bw) ((Kd.pV_ (Kd.p2_ (ok := (fun k_ => some k_ ≠ (u4 : Value).ownBlock ∧ some k_ ≠ (.slice eW dq.length eh : Value).ownBlock ∧ k_ ≠ aG)) (Z66 aH) hg hat)).2.2) KL29.out ((Kd.pV_ (Kd.p2_ (ok := (fun k_ => some k_ ≠ (u4 : Value).ownBlock ∧ some k_ ≠ (.slice eW dq.length eh : Value).ownBlock ∧ k_ ≠ aG)) (Z66 aH) hg hat)).2.1))) (ho) ?_
            clear ak aH aD cI HB HR461 HR474 fS
            intro ak aH aD cI HB HR461 HR474 zh
            clear ho hb hg hat
            refine hK.out _ _ (et_ aD.out) (fun hHeld => ?_)
            clear hK K
            refine nm_ 53 ?_
            refine on_ 11 (some 57) (M_ 12 1) (fun K hK => ?_)
            refine ht_ (w0 := w) w.heap.size (.tmp 53) (.tmp 56) v469 em cD (fun k_ => some k_ ≠ (u4 : Value).ownBlock ∧ some k_ ≠ (.slice cO av.length bw : Value).ownBlock ∧ some k_ ≠ (.slice eW dq.length eh : Value).ownBlock ∧ k_ ≠ aG) rfl rfl ?aO ?aR ?aF ?aB ?aS ?aL ?_
            (case aR => repeat (first | exact (Z11 HR474) | (with_reducible refine Kd.qg_ ?_ _) | (with_reducible refine Kd.qn_ ?_ _) | (with_reducible refine Kd.qo_ ?_)))
            (case aB => exact Z13)
            (case aF => exact (fun k_ hk => ⟨Kd.fresh' (Yd_ ak) k_ hk, Kd.fresh' (Yd_ aH) k_ hk, Kd.fresh' (Yd_ cI) k_ hk, Kd.freshB (zo_ aD) k_ hk⟩))
            (case aO => exact (Z1 zh))
            (case aS => exact (ao_ (Z13)))
            (case aL => exact Z91 rD)
            intro v476 uP ho hb hg hat
            rw [← Ny475.out] at ho
            refine k8_ (Kd.p2_ (ok := (fun k_ => some k_ ≠ (.slice cO av.length bw : Value).ownBlock ∧ some k_ ≠ (.slice eW dq.length eh : Value).ownBlock ∧ k_ ≠ aG)) (Z1 ak) hg hat) (Kd.p2_ (ok := (fun k_ => some k_ ≠ (u4 : Value).ownBlock ∧ some k_ ≠ (.slice eW dq.length eh : Value).ownBlock ∧ k_ ≠ aG)) (Z1 aH) hg hat) (bg_ (zo_ aD) hg (Kd.qh_ zh.out (fun _ hk => hk.2.2.2))) (Kd.p2_ (ok := (fun k_ => some k_ ≠ (u4 : Value).ownBlock ∧ some k_ ≠ (.slice cO av.length bw : Value).ownBlock ∧ k_ ≠ aG)) (Z1 cI) hg hat) (hb) ((show Kd.C k42 uP cO dK.length dK from by rw [mq.out]; exact Kd.qi_ (m := (aT : Int).toNat) ((Kd.pV_ (Kd.p2_ (ok := (fun k_ => some k_ ≠ (u4 : Value).ownBlock ∧ some k_ ≠ (.slice eW dq.length eh : Value).ownBlock ∧ k_ ≠ aG)) (Z1 aH) hg hat)).2.2) KL28.out)) ((show Kd.C k42 uP lO cD.length cD from by rw [mr.out, xm.out]; exact Kd.ql_ (m := (aT : Int).toNat) (c := bw) ((Kd.pV_ (Kd.p2_ (ok := (fun k_ => some k_ ≠ (u4 : Value).ownBlock ∧ some k_ ≠ (.slice eW dq.length eh : Value).ownBlock ∧ k_ ≠ aG)) (Z1 aH) hg hat)).2.2) KL29.out ((Kd.pV_ (Kd.p2_ (ok := (fun k_ => some k_ ≠ (u4 : Value).ownBlock ∧ some k_ ≠ (.slice eW dq.length eh : Value).ownBlock ∧ k_ ≠ aG)) (Z1 aH) hg hat)).2.1))) (ho) ?_
            clear ak aH aD cI HB HR461 HR474 zh
            intro ak aH aD cI HB HR461 HR474 HO477
            clear ho hb hg hat
            refine hK.out _ _ (et_ aD.out) (fun hHeld => ?_)
            clear hK K
            refine nm_ 57 ?_
            refine pu_ 12 7 (M_ 13 0) ?_
            refine cw_ (bS_ HT_.out (by kernel_rfl)) ?_
            try go_wp2
            go_roundg k3
            case measure => have := HK1.out; have := HK2.out; have := HK3.out; omega
            case rel => exact ⟨(JM), (wrap64 (al + 1)), (Z14), H', ⟨fK_⟩, ⟨Z61 ak⟩, ⟨Z47 HO477⟩, ⟨Z13⟩⟩
        have H' := aa_.mk H
        clear H
        obtain ⟨ad452, e452, eF, eG, pG, pH⟩ := ds_ HR0.out HB.out al
        cases e452
        go_wp2_with (((with_reducible refine au_ (N := 9) rfl ?_); refine bv_ 9 42 #[.int .i64 0, .int .i64 0] ?_; intro aG hg N4 hbox hb; refine k6_ (Kd.p5_ (Kd.p6_ (Z1 ak) aG (Nat.le_of_eq hg.symm)) hb) (Kd.p5_ (Kd.p6_ (Z1 aH) aG (Nat.le_of_eq hg.symm)) hb) Ws_ (hbox) (Wg_ w aG) (Wg_ w aG) ?_; clear ak aH HB; intro ak aH HB aD GW453 Do; clear hb hbox hg; obtain ⟨hcz60_0, hcz60_1, hfz60_0, hfz60_1⟩ := cH_ (w := N4) aD.out))
        go_roundg k2
        case measure => have := HK1.out; have := HK2.out; omega
        case rel => exact ⟨(av), (wrap64 (al + 1)), (Z14), H', ⟨fc_ HK1⟩, ⟨o7_ ak⟩, ⟨o7_ aH⟩, ⟨Z13⟩⟩
       have H' := aa_.mk H
       clear H
       obtain ⟨Ch, rP, GZ⟩ := Kd.pW_ aH.out
       subst GZ
       go_wp2
       go_loopg [4, 61] k2 (fun kq v4 v61 w' => ∃ (bl : List (S42)) (ci : Int), v61 = .int .i64 ci ∧ aa_ (ai_.l3 kq l0 bl aE br av (av.length : Int) ci = some (r1, r2)) ∧ aa_ (kq ≤ k2) ∧ aa_ (Kd.R k42 42 w' w.heap.size (fun k_ => some k_ ≠ ((.slice Ch av.length rP) : Value).ownBlock) v4 bl) ∧ aa_ (Kd.R k42 42 w' w.heap.size (fun k_ => some k_ ≠ (v4 : Value).ownBlock) (.slice Ch av.length rP) av) ∧ aa_ (Below w.heap.size w w'))
       case atStart => exact ⟨(aC), (0), (Z14), H', ⟨Nat.le_refl _⟩, ⟨Z1 ak⟩, ⟨Z1 aH⟩, ⟨Z2⟩⟩
       case round =>
        clear H'
        (try clear cC)
        obtain ⟨bl, ci, rfl, HA, HK3, ak, aH, HB⟩ := hrel
        cases gk with
        | zero => exact absurd HA.out (by simp [ai_.l3])
        | succ k3 =>
         have H := HA.out
         clear HA
         simp only [ai_.l3] at H
         replace H := iv_ H; obtain ⟨zo, H⟩ | ⟨zo, H⟩ := H
         ·replace H := it_ H; obtain ⟨rfl, H⟩ | ⟨rfl, H⟩ := H
          ·obtain ⟨eH, hji64⟩ : ∃ j_ : Int, (wrap64 ((wrap64 ((av.length : Int) - 1)) - ci)) = j_ := ⟨_, rfl⟩
           (first | rw [hji64] at H | simp only [hji64] at H)
           have hji64w : (IntKind.i64.wrap ((wrap64 ((av.length : Int) - 1)) - ci)) = eH := (bA_ _).trans hji64
           replace H := id_ H; obtain ⟨c65b0, H⟩ := H
           replace H := id_ H; obtain ⟨c66b0, H⟩ := H
           replace H := lt_ H; obtain ⟨lW, DH, H⟩ := H
           replace H := ia_ H; obtain ⟨LMc67, H⟩ := H
           generalize e_ : ((bl ++ lW) : List (S42)) = JT at H
           have Ny505 := aa_.mk e_.symm; clear e_
           have H' := aa_.mk H
           clear H
           obtain ⟨DI, e501, hx501_0, hx501_1, G0, G1⟩ := cg_ (Kd.pV_ aH.out).2.2 (eH)
           cases e501
           go_wp2_with (first | ((with_reducible refine au_ (N := 74) rfl ?_); refine lu_ k42 42 74 ([(⟨(ac_ av (eH)).f0, (ac_ av (eH)).f1⟩ : S42)] : List (S42)) [.int .i64 ((ac_ av (eH)).f0), .int .i64 ((ac_ av (eH)).f1)] (aH_.c2 (show Kd.M k42 _ _ _ (⟨(ac_ av (eH)).f0, (ac_ av (eH)).f1⟩ : S42) [.int .i64 ((ac_ av (eH)).f0), .int .i64 ((ac_ av (eH)).f1)] from (cy_ _ _ _ (⟨(ac_ av (eH)).f0, (ac_ av (eH)).f1⟩ : S42) )) (aH_.none _ _)) ?_; intro v503 w68 ho69 hb hg_ hnew_; clear hg_ hnew_; (first | rw [← DH.out] at ho69 | (simp only [Int.reduceToNat] at ho69; rw [← DH.out] at ho69)); refine k4_ (We_ ak ho69) (We_ aH ho69) (Kd.pY_ (Kd.p3_ (Kd.p3_ ho69 (Yd_ ak)) (Yd_ aH)) (ao_ (Z2))) Ws_ ?_; clear ak aH HB; intro ak aH o5 HB; clear hb ho69; obtain ⟨JU, JV, eo71⟩ := Kd.pW_ o5.out; subst eo71) | ((with_reducible refine bh_ (b := .append) (xs := #[.tmp 65, .tmp 74]) rfl ?_); at_builtin; refine hC_ (w0 := w) w.heap.size (.tmp 65) (.tmp 74) u4 bl lW (fun k_ => some k_ ≠ (.slice (some DI) av.length rP : Value).ownBlock ∧ some k_ ≠ (.slice JU lW.length JV : Value).ownBlock) rfl rfl ?aO ?aR ?aF ?aB ?aS ?aL ?_; (case aR => exact Z3 o5); (case aB => exact Z2); (case aF => exact (fun k_ hk => ⟨Kd.fresh' (Yd_ aH) k_ hk, Kd.fresh' (Yd_ o5) k_ hk⟩)); (case aO => exact (Z1 ak)); (case aS => exact (ao_ (Z2))); (case aL => exact Z91 LMc67); intro v506 NH ho hb hg hat; rw [← Ny505.out] at ho; refine k4_ (Kd.p2_ (ok := (fun k_ => some k_ ≠ (.slice JU lW.length JV : Value).ownBlock)) (Z96 aH) hg hat) (Kd.p2_ (ok := (fun k_ => some k_ ≠ (.slice (some DI) av.length rP : Value).ownBlock)) (ks_ o5) hg hat) (hb) (ho) ?_; clear aH o5 HB ak; intro aH o5 HB HO507; clear ho hb hg hat))
           go_roundg k3
           case measure => have := HK1.out; have := HK2.out; have := HK3.out; omega
           case rel => exact ⟨(JT), (wrap64 (ci + 1)), (Z14), H', ⟨fK_⟩, ⟨Z47 HO507⟩, ⟨Z61 aH⟩, ⟨Z2⟩⟩
          replace H := id_ H; obtain ⟨c72b0, H⟩ := H
          replace H := id_ H; obtain ⟨c73b0, H⟩ := H
          with_reducible replace H := lt_ H; obtain ⟨oI, DJ, H⟩ := H
          replace H := ia_ H; obtain ⟨LMc74, H⟩ := H
          generalize e_ : ((bl ++ oI) : List (S42)) = JW at H
          have Ny512 := aa_.mk e_.symm; clear e_
          have H' := aa_.mk H
          clear H
          obtain ⟨DK, e508, hx508_0, hx508_1, G2, G3⟩ := cg_ (Kd.pV_ aH.out).2.2 ci
          cases e508
          go_wp2_with (first | ((with_reducible refine au_ (N := 81) rfl ?_); refine lu_ k42 42 81 ([(⟨(ac_ av ci).f0, (ac_ av ci).f1⟩ : S42)] : List (S42)) [.int .i64 ((ac_ av ci).f0), .int .i64 ((ac_ av ci).f1)] (aH_.c2 (show Kd.M k42 _ _ _ (⟨(ac_ av ci).f0, (ac_ av ci).f1⟩ : S42) [.int .i64 ((ac_ av ci).f0), .int .i64 ((ac_ av ci).f1)] from (cy_ _ _ _ (⟨(ac_ av ci).f0, (ac_ av ci).f1⟩ : S42) )) (aH_.none _ _)) ?_; intro v510 NI ho76 hb hg_ hnew_; clear hg_ hnew_; (first | rw [← DJ.out] at ho76 | (simp only [Int.reduceToNat] at ho76; rw [← DJ.out] at ho76)); refine k4_ (We_ ak ho76) (We_ aH ho76) (Kd.pY_ (Kd.p3_ (Kd.p3_ ho76 (Yd_ ak)) (Yd_ aH)) (ao_ (Z2))) Ws_ ?_; clear ak aH HB; intro ak aH o6 HB; clear hb ho76; obtain ⟨G4, G5, G6⟩ := Kd.pW_ o6.out; subst G6) | ((with_reducible refine bh_ (b := .append) (xs := #[.tmp 76, .tmp 81]) rfl ?_); at_builtin; refine hC_ (w0 := w) w.heap.size (.tmp 76) (.tmp 81) u4 bl oI (fun k_ => some k_ ≠ (.slice (some DK) av.length rP : Value).ownBlock ∧ some k_ ≠ (.slice G4 oI.length G5 : Value).ownBlock) rfl rfl ?aO ?aR ?aF ?aB ?aS ?aL ?_; (case aR => exact Z3 o6); (case aB => exact Z2); (case aF => exact (fun k_ hk => ⟨Kd.fresh' (Yd_ aH) k_ hk, Kd.fresh' (Yd_ o6) k_ hk⟩)); (case aO => exact (Z1 ak)); (case aS => exact (ao_ (Z2))); (case aL => exact Z91 LMc74); intro v513 w77 ho hb hg hat; rw [← Ny512.out] at ho; refine k4_ (Kd.p2_ (ok := (fun k_ => some k_ ≠ (.slice G4 oI.length G5 : Value).ownBlock)) (Z96 aH) hg hat) (Kd.p2_ (ok := (fun k_ => some k_ ≠ (.slice (some DK) av.length rP : Value).ownBlock)) (ks_ o6) hg hat) (hb) (ho) ?_; clear aH o6 HB ak; intro aH o6 HB HO514; clear ho hb hg hat))
          go_roundg k3
          case measure => have := HK1.out; have := HK2.out; have := HK3.out; omega
          case rel => exact ⟨(JW), (wrap64 (ci + 1)), (Z14), H', ⟨fK_⟩, ⟨Z47 HO514⟩, ⟨Z61 aH⟩, ⟨Z2⟩⟩
         replace H := iw_ H; obtain ⟨c79, H⟩ | ⟨c79, H⟩ := H
         ·have c79b0 : decide (0 < (av.length : Int)) = true := decide_eq_true c79
          have c79b1 : decide (0 < av.length) = true := decide_eq_true (by omega)
          clear c79
          have H' := aa_.mk H
          clear H
          go_wp2
          go_roundg k3
          case measure => have := HK1.out; have := HK2.out; have := HK3.out; omega
          case rel => exact ⟨(bl), (!aE), (wrap64 (br + 1)), (Z14), (Z14), H', ⟨fK_⟩, ⟨Z38 ak⟩, ⟨Z2⟩⟩
         have c79b0 : decide (0 < (av.length : Int)) = false := decide_eq_false c79
         have c79b1 : decide (0 < av.length) = false := decide_eq_false (by omega)
         clear c79
         have H' := aa_.mk H
         clear H
         go_wp2
         go_roundg k3
         case measure => have := HK1.out; have := HK2.out; have := HK3.out; omega
         case rel => exact ⟨(bl), (aE), (wrap64 (br + 1)), (Z14), (Z14), H', ⟨fK_⟩, ⟨Z38 ak⟩, ⟨Z2⟩⟩
    obtain ⟨rfl, rfl⟩ := sp_ H; clear H
    go_wp2
    go_ret2
    exact ⟨_, Z9, Z1 ak, Z2⟩
 obtain ⟨rfl, rfl⟩ := sp_ H; clear H
 go_enter Tryz.func11, Tryz.ntmps11
 go_wp2_with (((with_reducible refine ae_ (f := 36) rfl ?_); refine gl_ 13 Tryz.func36 #[.slice A0 l0.length c0] ?_; (with_reducible refine (aQ_.calls k _ _ l0 false _ ?_ ?_ A2.out).mono ?_); exact (Z15 HR0); exact HC0.out; rintro e NJ ⟨rfl, hb⟩; refine ⟨_, rfl, ?_⟩; refine k1_ Ws_ ?_; clear HB; intro HB; (try clear hb)))
 go_ret2
 exact ⟨_, Z9, Z17, Z2⟩
theorem fx_ {p : Prop} (h : p := by repeat' first | (with_reducible first | apply ih0 | apply ih0 | apply ih1 | apply ih1 | apply ih2 | apply ih2 | apply ih3 | apply ih3 | apply ad_.mono | apply ad_.mono | apply ah_.mono | apply ah_.mono | apply aU_.mono | apply aU_.mono | exact LeO.refl _ | exact LeO.none _ | refine LeO.ite ?_ ?_ | refine LeO.bind ?_ (fun _ => ?_)) | exact LeO.none _ | refine LeO.ite ?_ ?_ | refine LeO.bind ?_ (fun _ => ?_)) : p := h
attribute [local go_sem high] ph_
def aJ_.l0 : Nat → List (S61) → List (S61) → Int → Int → Option (Bool)
 | 0, _, _, _, _ => none
 | k + 1, x0, x1, x12, x13 => if x13 < x12 then (if 0 ≤ x13 then (if x13 < (x0.length : Int) then (if x13 < (x1.length : Int) then (if (!(((ab_ x0 x13).f0) == ((ab_ x1 x13).f0)) || (!(((ab_ x0 x13).f1) == ((ab_ x1 x13).f1)) || (!(((ab_ x0 x13).f2) == ((ab_ x1 x13).f2))))) = true then (some false) else (aJ_.l0 k x0 x1 x12 (wrap64 (x13 + 1)))) else (none)) else (none)) else (none)) else (some true)
def aJ_.f (k : Nat) (l0 : List (S61)) (l1 : List (S61)) : Option (Bool) := if (l0.length : Int) = (l1.length : Int) then (aJ_.l0 k l0 l1 (l0.length : Int) 0) else (some false)
theorem aJ_.mono_l : ∀ k, (∀ y0 y1 y2 y3, LeO (aJ_.l0 k y0 y1 y2 y3) (aJ_.l0 (k + 1) y0 y1 y2 y3))
 | 0 => fun _ _ _ _ r h => by simp [aJ_.l0] at h
 | k + 1 => by
  have ih0 := aJ_.mono_l k
  ·intro y0 y1 y2 y3
   unfold aJ_.l0
   exact fx_
theorem aJ_.mono : ∀ a0 a1 k, LeO (aJ_.f k a0 a1) (aJ_.f (k + 1) a0 a1) := by
 intro a0 a1 k
 have ih0 := aJ_.mono_l k
 unfold aJ_.f
 exact fx_
set_option maxHeartbeats 8000000 in
set_option maxRecDepth 100000 in
theorem aJ_.calls (k : Nat) (A0 : Option Addr) (c0 : Nat) (l0 : List (S61)) (A1 : Option Addr) (c1 : Nat) (l1 : List (S61)) (r : Bool) (w : World) (hr0 : Kd.C k61 w A0 l0.length l0) (hc0 : l0.length ≤ c0) (hr1 : Kd.C k61 w A1 l1.length l1) (hc1 : l1.length ≤ c1) (h : aJ_.f k l0 l1 = some r) :
  Calls Tryz.prog 12 #[.slice A0 l0.length c0, .slice A1 l1.length c1] w fun e w' => e = .returned (.bool r) ∧ bH_ w w' := by
 have hu61 := Tryz.underlying61
 have HR0 := aa_.mk hr0
 have HC0 := aa_.mk hc0
 clear hr0 hc0
 have HR1 := aa_.mk hr1
 have HC1 := aa_.mk hc1
 clear hr1 hc1
 have H := h; unfold aJ_.f at H
 clear h
 replace H := iw_ H; obtain ⟨c3, H⟩ | ⟨c3, H⟩ := H
 ·have cU : ((l0.length : Int) == (l1.length : Int)) = true := beq_iff_eq.mpr c3
  have je : ((l0.length : Int) != (l1.length : Int)) = false := bne_eq_false_iff_eq.mpr c3
  have qZ : (l0.length == l1.length) = true := by first | simpa using c3 | (simp at c3 ⊢; omega)
  clear c3
  have H' := aa_.mk H
  clear H
  go_enter Tryz.func12, Tryz.ntmps12
  go_wp2
  repeat (go_quiet (fail); try go_wp2)
  go_loopg [13] k (fun kq Jx w' => ∃ (aM : Int), Jx = .int .i64 aM ∧ aa_ (aJ_.l0 kq l0 l1 (l0.length : Int) aM = some r) ∧ aa_ (kq ≤ k) ∧ bH_ w w')
  case atStart => exact ⟨(0), (Z14), H', ⟨Nat.le_refl _⟩, Z41⟩
  case round =>
   clear H'
   (try clear c1); (try clear c3); (try clear cU); (try clear je); (try clear qZ)
   obtain ⟨aM, rfl, HA, HK1, ⟨m1, rfl⟩⟩ := hrel
   cases gk with
   | zero => exact absurd HA.out (by simp [aJ_.l0])
   | succ k1 =>
    have H := HA.out
    clear HA
    simp only [aJ_.l0] at H
    replace H := iv_ H; obtain ⟨da, H⟩ | ⟨da, H⟩ := H
    ·replace H := id_ H; obtain ⟨dp, H⟩ := H
     replace H := id_ H; obtain ⟨cC, H⟩ := H
     replace H := id_ H; obtain ⟨dJ, H⟩ := H
     replace H := iw_ H; obtain ⟨c8, H⟩ | ⟨c8, H⟩ := H
     ·have gN : (!(((ab_ l0 aM).f0) == ((ab_ l1 aM).f0)) || (!(((ab_ l0 aM).f1) == ((ab_ l1 aM).f1)) || (!(((ab_ l0 aM).f2) == ((ab_ l1 aM).f2))))) = true := c8
      clear c8
      obtain rfl := Option.some.inj H
      obtain ⟨ad515, e515, hx515_0, hx515_1, hx515_2, u2, u6⟩ := d0_ HR0.out aM
      cases e515
      obtain ⟨ad516, e516, hx516_0, hx516_1, hx516_2, u9, vk⟩ := d0_ HR1.out aM
      cases e516
      go_wp2
      repeat (go_quiet (fail); try go_wp2)
      go_ret
      exact ⟨Z14, Z41⟩
     have gN : (!(((ab_ l0 aM).f0) == ((ab_ l1 aM).f0)) || (!(((ab_ l0 aM).f1) == ((ab_ l1 aM).f1)) || (!(((ab_ l0 aM).f2) == ((ab_ l1 aM).f2))))) = false := by simpa using c8
     clear c8
     have H' := aa_.mk H
     clear H
     obtain ⟨ad515, e515, hx515_0, hx515_1, hx515_2, u2, u6⟩ := d0_ HR0.out aM
     cases e515
     obtain ⟨ad516, e516, hx516_0, hx516_1, hx516_2, u9, vk⟩ := d0_ HR1.out aM
     cases e516
     go_wp2
     repeat (go_quiet (fail); try go_wp2)
     go_roundg k1
     case measure => have := HK1.out; omega
     case rel => exact ⟨(wrap64 (aM + 1)), (Z14), H', ⟨Z91 HK1⟩, Z41⟩
    obtain rfl := Option.some.inj H
    go_wp2
    repeat (go_quiet (fail); try go_wp2)
    go_ret
    exact ⟨Z14, Z41⟩
 have cU : ((l0.length : Int) == (l1.length : Int)) = false := beq_eq_false_iff_ne.mpr c3
 have je : ((l0.length : Int) != (l1.length : Int)) = true := bne_iff_ne.mpr c3
 have qZ : (l0.length == l1.length) = false := by first | simpa using c3 | (simp at c3 ⊢; omega)
 obtain rfl := Option.some.inj H
 go_enter Tryz.func12, Tryz.ntmps12
 go_wp2
 repeat (go_quiet (fail); try go_wp2)
 go_ret
 exact ⟨Z14, Z41⟩
mutual
def ah_.j0 : Nat → List (S42) → Bool → List Int → Int → Int → Option ((List (S42)) × Int × Int)
 | 0, _, _, _, _, _ => none
 | k + 1, x3, x19, bC, bX, cj => if x19 = true then ((ar_.f bC bX cj 7).bind fun zp => (ah_.l0 k ([] : List (S42)) zp.1 bC zp.2.1 zp.2.2)) else (ah_.j2 k x3 bC bX cj)
def ah_.j2 : Nat → List (S42) → List Int → Int → Int → Option ((List (S42)) × Int × Int)
 | 0, _, _, _, _ => none
 | k + 1, x3, bC, bX, cj => if (x3.length : Int) > 0 then ((ar_.f bC bX cj (x3.length : Int)).bind fun mu => (if 0 ≤ mu.1 then (if mu.1 < (x3.length : Int) then ((ar_.f bC mu.2.1 mu.2.2 30).bind fun hG => (if hG.1 = 0 then ((aY_.f bC hG.2.1 hG.2.2 (([(-1), 19, 20] : List Int))).bind fun nT => (some ((x3.set (mu.1 : Int).toNat (⟨nT.1, (ac_ x3 mu.1).f1⟩ : S42)), nT.2.1, nT.2.2))) else (if hG.1 = 1 then ((aY_.f bC hG.2.1 hG.2.2 (([(-1), 1999, 2000] : List Int))).bind fun nU => (some ((x3.set (mu.1 : Int).toNat (⟨(ac_ x3 mu.1).f0, nU.1⟩ : S42)), nU.2.1, nU.2.2))) else (if hG.1 = 2 then ((ar_.f bC hG.2.1 hG.2.2 2).bind fun zq => (ah_.l1 k x3 (wrap64 (200 + zq.1)) bC zq.2.1 zq.2.2)) else (some (x3, hG.2.1, hG.2.2)))))) else (none)) else (none))) else (some (x3, bX, cj))
def ah_.l1 : Nat → List (S42) → Int → List Int → Int → Int → Option ((List (S42)) × Int × Int)
 | 0, _, _, _, _, _ => none
 | k + 1, x3, x7, bC, bX, cj => if (x3.length : Int) < x7 then (if x3.length < 8796093022208 then (ah_.l1 k (x3 ++ [(⟨1, (x3.length : Int)⟩ : S42)]) x7 bC bX cj) else (none)) else (some (x3, bX, cj))
def ah_.l0 : Nat → List (S42) → Int → List Int → Int → Int → Option ((List (S42)) × Int × Int)
 | 0, _, _, _, _, _ => none
 | k + 1, x3, x5, bC, bX, cj => if x5 > 0 then ((ar_.f bC bX cj 5).bind fun zr => ((ar_.f bC zr.2.1 zr.2.2 30).bind fun zt => ((aY_.f bC zt.2.1 zt.2.2 (([0, 3, 4, zt.1, 1998] : List Int))).bind fun nV => (if x3.length < 8796093022208 then (ah_.l0 k (x3 ++ [(⟨zr.1, nV.1⟩ : S42)]) (wrap64 (x5 - 1)) bC nV.2.1 nV.2.2) else (none))))) else (ah_.j2 k x3 bC bX cj)
end
def ah_.f (k : Nat) (s0_0 : List Int) (s0_1 : Int) (s0_2 : Int) : Option ((List (S42)) × Int × Int) := (ad_.f k s0_0 s0_1 s0_2).bind fun hJ => ((aU_.f k hJ.1).bind fun nW => (if nW.2 = true then ((bw_.f s0_0 hJ.2.1 hJ.2.2 3).bind fun nX => (ah_.j0 k nW.1 nX.1 s0_0 nX.2.1 nX.2.2)) else (ah_.j0 k nW.1 true s0_0 hJ.2.1 hJ.2.2)))
theorem ah_.mono_l : ∀ k, (∀ y0 y1 y2 y3 y4, LeO (ah_.j0 k y0 y1 y2 y3 y4) (ah_.j0 (k + 1) y0 y1 y2 y3 y4)) ∧ (∀ y0 y1 y2 y3, LeO (ah_.j2 k y0 y1 y2 y3) (ah_.j2 (k + 1) y0 y1 y2 y3)) ∧ (∀ y0 y1 y2 y3 y4, LeO (ah_.l1 k y0 y1 y2 y3 y4) (ah_.l1 (k + 1) y0 y1 y2 y3 y4)) ∧ (∀ y0 y1 y2 y3 y4, LeO (ah_.l0 k y0 y1 y2 y3 y4) (ah_.l0 (k + 1) y0 y1 y2 y3 y4))
 | 0 => ⟨fun _ _ _ _ _ r h => by simp [ah_.j0] at h, fun _ _ _ _ r h => by simp [ah_.j2] at h, fun _ _ _ _ _ r h => by simp [ah_.l1] at h, fun _ _ _ _ _ r h => by simp [ah_.l0] at h⟩
 | k + 1 => by
  obtain ⟨ih0, ih1, ih2, ih3⟩ := ah_.mono_l k
  refine ⟨?_, ?_, ?_, ?_⟩
  ·intro y0 y1 y2 y3 y4
   unfold ah_.j0
   exact fx_
  ·intro y0 y1 y2 y3
   unfold ah_.j2
   exact fx_
  ·intro y0 y1 y2 y3 y4
   unfold ah_.l1
   exact fx_
  intro y0 y1 y2 y3 y4
  unfold ah_.l0
  exact fx_
theorem ah_.mono : ∀ a0 a1 a2 k, LeO (ah_.f k a0 a1 a2) (ah_.f (k + 1) a0 a1 a2) := by
 intro a0 a1 a2 k
 obtain ⟨ih0, ih1, ih2, ih3⟩ := ah_.mono_l k
 unfold ah_.f
 exact fx_
set_option maxHeartbeats 8000000 in
set_option maxRecDepth 100000 in
theorem ah_.calls (k : Nat) (g : Nat) (s0_0 : List Int) (s0_1 : Int) (s0_2 : Int) (r1 : List (S42)) (r2 : Int) (r3 : Int) (w0 w : World) (hI : aj_ w0 w g s0_0 s0_1 s0_2) (hB : Below w0.heap.size w0 w) (h : ah_.f k s0_0 s0_1 s0_2 = some (r1, r2, r3)) :
  Calls Tryz.prog 38 #[.pointer (some ⟨g, 0, none⟩)] w fun e w' => ∃ v0_ : Value, e = .returned (v0_) ∧ Kd.R k42 42 w' w.heap.size (fun _ => True) v0_ r1 ∧ aj_ w0 w' g s0_0 r2 r3 ∧ Below w0.heap.size w0 w' ∧ ag_ w w' g none := by
 have hu42 := Tryz.underlying42
 have HI0 := aa_.mk hI
 have HK := aa_.mk (ag_.refl w g none)
 have HL := aa_.mk hB.size
 clear hI
 have HW0 := aa_.mk hB.size
 have HB := aa_.mk hB
 clear hB
 have H := h; unfold ah_.f at H
 clear h
 replace H := bd_ H; obtain ⟨⟨G7, zu, zv⟩, A2, H⟩ := H
 (try dsimp only at H)
 replace H := bd_ H; obtain ⟨⟨Ci, JX⟩, A3, H⟩ := H
 (try dsimp only at H)
 have HC4 := aa_.mk H
 clear H
 go_enter Tryz.func38, Tryz.ntmps38
 go_upto_region 2 with (first | ((with_reducible refine ae_ (f := 27) rfl ?_); refine gl_ 10 Tryz.func27 #[.pointer (some ⟨g, 0, none⟩)] ?_; (with_reducible refine (ad_.calls k g s0_0 s0_1 s0_2 G7 zu zv w0 _ ?_ ?_ A2.out).mono ?_); exact (Z4 HI0); exact Z7; rintro e w5 ⟨v518, rfl, ho0, hi, hb, hk⟩; refine ⟨_, rfl, ?_⟩; refine k4_ (Kd.pY_ ho0 (a9_ (w := w) (g := g) (row := none) (Z6))) Wk_ (hb) (hi) ?_; clear HK HB HI0; intro j4 HK HB HI0; (try clear hb hk hi ho0); obtain ⟨NK, NL, NM⟩ := Kd.pW_ j4.out; subst NM) | ((with_reducible refine ae_ (f := 31) rfl ?_); refine gl_ 11 Tryz.func31 #[.slice NK G7.length NL] ?_; (with_reducible refine (aU_.calls k _ _ G7 Ci JX _ ?_ ?_ A3.out).mono ?_); exact (Z3 j4); exact (Kd.pV_ j4.out).2.1; rintro e w7 ⟨v524, rfl, ho0, hb⟩; refine ⟨_, rfl, ?_⟩; refine k5_ (Ya_ j4) (Kd.pY_ ho0 (a9_ (w := w) (g := g) (row := none) (Z6))) (aj_.below (Z4 HI0) hb) Wl_ (aq_ (Z7) hb) ?_; clear j4 HI0 HK HB; intro j4 rU HI0 HK HB; (try clear hb ho0)))
 (try simp only [Act.put, List.setIfInBounds_toArray, List.set_cons_zero, List.set_cons_succ])
 go_cut [19] (fun Jz wc => ∃ (kq : Nat) (ww : Bool) (iH : Int) (iI : Int), Jz = .bool ww ∧ aa_ (ah_.j0 kq Ci ww s0_0 iH iI = some (r1, r2, r3)) ∧ aa_ (kq ≤ k) ∧ aa_ (Kd.R k42 42 wc w.heap.size (fun _ => True) v524 Ci) ∧ aa_ (aj_ w0 wc g s0_0 iH iI) ∧ aa_ (ag_ w wc g none) ∧ aa_ (Below w0.heap.size w0 wc))
 case first =>
  have H := HC4.out
  clear HC4
  replace H := it_ H; obtain ⟨rfl, H⟩ | ⟨rfl, H⟩ := H
  ·replace H := bd_ H; obtain ⟨⟨JY, JZ, J0⟩, A9, H⟩ := H
   (try dsimp only at H)
   have H' := aa_.mk H
   clear H
   go_wp2_with ((go_at_call 54; (with_reducible refine (bw_.calls g s0_0 zu zv 3 JY JZ J0 w0 _ ?_ ?_ A9.out).mono ?_); exact (Z4 HI0); exact Z7; rintro e jc ⟨rfl, hi, hb, hk⟩; refine k5_ (Wm_ j4) (Wm_ rU) Wk_ (hb) (hi) ?_; clear j4 rU HK HB HI0; intro j4 rU HK HB HI0; (try clear hb hk hi)))
   go_meet
   case rel => exact ⟨_, (JY), (JZ), (J0), (Z14), H', ⟨d7_⟩, ⟨Z1 rU⟩, ⟨Z4 HI0⟩, ⟨Z6⟩, ⟨Z7⟩⟩
  have H' := aa_.mk H
  clear H
  go_wp2
  go_meet
  case rel => exact ⟨_, (true), (zu), (zv), (Z14), H', ⟨d7_⟩, ⟨Z1 rU⟩, ⟨Z4 HI0⟩, ⟨Z6⟩, ⟨Z7⟩⟩
 case rest =>
  clear HC4
  obtain ⟨kq, ww, iH, iI, rfl, HA, Jf, aA, HI0, HK, HB⟩ := hcut
  cases kq with
  | zero => exact absurd HA.out (by simp [ah_.j0])
  | succ NN =>
   have H := HA.out
   clear HA
   simp only [ah_.j0] at H
   have HC11 := aa_.mk H
   clear H
   go_upto_if 19 with (fail)
   go_cut [3] (fun v3 wc => ∃ (kq : Nat) (bI : List (S42)) (dh : Int) (di : Int), aa_ (ah_.j2 kq bI s0_0 dh di = some (r1, r2, r3)) ∧ aa_ (kq ≤ NN) ∧ aa_ (Kd.R k42 42 wc w.heap.size (fun _ => True) v3 bI) ∧ aa_ (aj_ w0 wc g s0_0 dh di) ∧ aa_ (ag_ w wc g none) ∧ aa_ (Below w0.heap.size w0 wc))
   case first =>
    have H := HC11.out
    clear HC11
    replace H := it_ H; obtain ⟨rfl, H⟩ | ⟨rfl, H⟩ := H
    ·replace H := bd_ H; obtain ⟨⟨J1, J2, J3⟩, zw, H⟩ := H
     (try dsimp only at H)
     have H' := aa_.mk H
     clear H
     go_wp2_with (((with_reducible refine ae_ (f := 39) rfl ?_); refine gl_ 21 Tryz.func39 #[.pointer (some ⟨g, 0, none⟩), .int .i64 7] ?_; (with_reducible refine (ar_.calls g s0_0 iH iI 7 J1 J2 J3 w0 _ ?_ ?_ zw.out).mono ?_); exact (Z4 HI0); exact Z7; rintro e xg ⟨rfl, hi, hb, hk⟩; refine ⟨_, rfl, ?_⟩; refine k4_ (Wm_ aA) Wk_ (hb) (hi) ?_; clear aA HK HB HI0; intro aA HK HB HI0; (try clear hb hk hi)))
     (try simp only [Act.put, List.setIfInBounds_toArray, List.set_cons_zero, List.set_cons_succ])
     go_loopg [3, 5] NN (fun kq v3 v5 w' => ∃ (pJ : List (S42)) (pK : Int) (ck : Int) (iJ : Int), v5 = .int .i64 pK ∧ aa_ (ah_.l0 kq pJ pK s0_0 ck iJ = some (r1, r2, r3)) ∧ aa_ (kq ≤ NN) ∧ aa_ (Kd.R k42 42 w' w.heap.size (fun _ => True) v3 pJ) ∧ aa_ (aj_ w0 w' g s0_0 ck iJ) ∧ aa_ (ag_ w w' g none) ∧ aa_ (Below w0.heap.size w0 w'))
     case atStart => exact ⟨(([] : List (S42))), (J1), (J2), (J3), (Z14), H', ⟨Nat.le_refl _⟩, ⟨Z17⟩, ⟨Z4 HI0⟩, ⟨Z6⟩, ⟨Z7⟩⟩
     case round =>
      clear H'
      obtain ⟨pJ, pK, ck, iJ, rfl, HA, HK2, aA, HI0, HK, HB⟩ := hrel
      cases gk with
      | zero => exact absurd HA.out (by simp [ah_.l0])
      | succ k2 =>
       have H := HA.out
       clear HA
       simp only [ah_.l0] at H
       replace H := iw_ H; obtain ⟨c15, H⟩ | ⟨c15, H⟩ := H
       ·have dR : decide (0 < pK) = true := decide_eq_true c15
        clear c15
        (first | rw [dR] | (simp only [bA_, ch_]; rw [dR]) | skip)
        replace H := bd_ H; obtain ⟨⟨xr, G8, G9⟩, NO, H⟩ := H
        (try dsimp only at H)
        replace H := bd_ H; obtain ⟨⟨xt, zy, zz⟩, A17, H⟩ := H
        (try dsimp only at H)
        generalize e_ : ((([0, 3, 4, xt, 1998] : List Int)) : List Int) = Ha at H
        have DL := aa_.mk e_.symm; clear e_
        replace H := bd_ H; obtain ⟨⟨zA, Hb, Hc⟩, A18, H⟩ := H
        (try dsimp only at H)
        replace H := ia_ H; obtain ⟨zB, H⟩ := H
        generalize e_ : ((pJ ++ [(⟨xr, zA⟩ : S42)]) : List (S42)) = J5 at H
        have Ny544 := aa_.mk e_.symm; clear e_
        have H' := aa_.mk H
        clear H
        go_wp2_with (first | ((with_reducible refine ae_ (f := 39) rfl ?_); refine gl_ 28 Tryz.func39 #[.pointer (some ⟨g, 0, none⟩), .int .i64 5] ?_; (with_reducible refine (ar_.calls g s0_0 ck iJ 5 xr G8 G9 w0 _ ?_ ?_ NO.out).mono ?_); exact (Z4 HI0); exact Z7; rintro e Jd ⟨rfl, hi, hb, hk⟩; refine ⟨_, rfl, ?_⟩; refine k4_ (Wm_ aA) Wk_ (hb) (hi) ?_; clear aA HK HB HI0; intro aA HK HB HI0; (try clear hb hk hi)) | ((with_reducible refine ae_ (f := 39) rfl ?_); refine gl_ 31 Tryz.func39 #[.pointer (some ⟨g, 0, none⟩), .int .i64 30] ?_; (with_reducible refine (ar_.calls g s0_0 G8 G9 30 xt zy zz w0 _ ?_ ?_ A17.out).mono ?_); exact (Z4 HI0); exact Z7; rintro e NB ⟨rfl, hi, hb, hk⟩; refine ⟨_, rfl, ?_⟩; refine k4_ (Wm_ aA) Wk_ (hb) (hi) ?_; clear aA HK HB HI0; intro aA HK HB HI0; (try clear hb hk hi)) | ((with_reducible refine au_ (N := 32) rfl ?_); refine lu_ (Kd.int .i64) 3 32 ([0, 3, 4, xt, 1998] : List Int) [.int .i64 0, .int .i64 3, .int .i64 4, .int .i64 xt, .int .i64 1998] (aH_.one (show Kd.M (Kd.int .i64) _ _ _ 0 [.int .i64 0] from rfl) (aH_.one (show Kd.M (Kd.int .i64) _ _ _ 3 [.int .i64 3] from rfl) (aH_.one (show Kd.M (Kd.int .i64) _ _ _ 4 [.int .i64 4] from rfl) (aH_.one (show Kd.M (Kd.int .i64) _ _ _ xt [.int .i64 xt] from rfl) (aH_.one (show Kd.M (Kd.int .i64) _ _ _ 1998 [.int .i64 1998] from rfl) (aH_.none _ _)))))) ?_; intro v539 jE ho23 hb hg_ hnew_; clear hg_ hnew_; (first | rw [← DL.out] at ho23 | (simp only [Int.reduceToNat] at ho23; rw [← DL.out] at ho23)); refine k5_ (Ya_ aA) (Kd.pY_ ho23 (a9_ (w := w) (g := g) (row := none) (Z6))) (aj_.below (Z4 HI0) hb) Wl_ (aq_ (Z7) hb) ?_; clear aA HI0 HK HB; intro aA i4 HI0 HK HB; clear hb ho23; obtain ⟨Hd, He, Hf⟩ := Kd.pW_ i4.out; subst Hf) | ((with_reducible refine ae_ (f := 75) rfl ?_); refine gl_ 33 Tryz.func75 #[.pointer (some ⟨g, 0, none⟩), .slice Hd Ha.length He] ?_; (with_reducible refine (aY_.calls g s0_0 zy zz _ _ Ha zA Hb Hc w0 _ ?_ ?_ ?_ ?_ ?_ A18.out).mono ?_); exact (Z4 HI0); exact Z7; exact (Z3 i4); exact (Kd.pV_ i4.out).2.1; exact ci_ (aj_.own_ne HI0.out i4.out (by decide)); rintro e Dq ⟨rfl, hi, hb, hk⟩; refine ⟨_, rfl, ?_⟩; refine k5_ (Wm_ aA) (Wm_ i4) Wk_ (hb) (hi) ?_; clear aA i4 HK HB HI0; intro aA i4 HK HB HI0; (try clear hb hk hi)) | ((with_reducible refine bh_ (b := .append) (xs := #[.tmp 26, .tmp 35]) rfl ?_); at_builtin; refine e4_ w.heap.size (.tmp 26) (.tmp 35) u3 pJ (⟨xr, zA⟩ : S42) [.int .i64 xr, .int .i64 zA] (fun _ => True) rfl rfl ?aP ?aF ?aO (Below.refl _ _) ?aS ?aL ?_; (case aP => exact cy_ _ _ _ (⟨xr, zA⟩ : S42)); (case aF => exact (fun _ _ => trivial)); (case aO => exact (Z1 aA)); (case aS => exact (a9_ (w := w) (g := g) (row := none) (Z6))); (case aL => exact Z91 zB); intro v545 GT ho hb hg hat; rw [← Ny544.out] at ho; refine k5_ (aj_.grown (Z4 HI0) hg (aj_.own_ne HI0.out aA.out (by decide))) (Kd.qe_ (Z1 i4) (Kd.qd_ (Z1 aA)) (by decide) hg) (cN_ (Z7) HL.out hb) (ag_.trans (Z6) (ag_.of_grown hg g) (Kd.qk_ aA.out)) (ho) ?_; clear HI0 i4 HB HK aA; intro HI0 i4 HB HK HO546; clear ho hb hg hat))
        go_roundg k2
        case measure => have := Jf.out; have := HK2.out; omega
        case rel => exact ⟨(J5), (wrap64 (pK - 1)), (Hb), (Hc), (Z14), H', ⟨fc_ Jf⟩, ⟨Z1 HO546⟩, ⟨Z4 HI0⟩, ⟨Z6⟩, ⟨Z7⟩⟩
       have dR : decide (0 < pK) = false := decide_eq_false c15
       clear c15
       (first | rw [dR] | (simp only [bA_, ch_]; rw [dR]) | skip)
       have H' := aa_.mk H
       clear H
       go_wp2
       go_meet
       case rel => exact ⟨_, (pJ), (ck), (iJ), H', ⟨by have := Jf.out; have := HK2.out; first | omega | exact Nat.le_refl _⟩, ⟨Z1 aA⟩, ⟨Z4 HI0⟩, ⟨Z6⟩, ⟨Z7⟩⟩
    have H' := aa_.mk H
    clear H
    go_wp2
    go_meet
    case rel => exact ⟨_, (Ci), (iH), (iI), H', ⟨eL_ Jf⟩, ⟨Z1 aA⟩, ⟨Z4 HI0⟩, ⟨Z6⟩, ⟨Z7⟩⟩
   case rest =>
    clear HC11
    obtain ⟨kq, bI, dh, di, HA, J6, aA, HI0, HK, HB⟩ := hcut
    cases kq with
    | zero => exact absurd HA.out (by simp [ah_.j2])
    | succ J7 =>
     have H := HA.out
     clear HA
     simp only [ah_.j2] at H
     replace H := iw_ H; obtain ⟨c27, H⟩ | ⟨c27, H⟩ := H
     ·have d5 : decide (0 < (bI.length : Int)) = true := decide_eq_true c27
      have jF : decide (0 < bI.length) = true := decide_eq_true (by omega)
      clear c27
      replace H := bd_ H; obtain ⟨⟨ca, mN, mO⟩, DM, H⟩ := H
      (try dsimp only at H)
      replace H := id_ H; obtain ⟨nZ, H⟩ := H
      replace H := id_ H; obtain ⟨oR, H⟩ := H
      replace H := bd_ H; obtain ⟨⟨gy, j6, j7⟩, Jg, H⟩ := H
      (try dsimp only at H)
      replace H := ic_ H; obtain ⟨qJ, wy, H⟩ | ⟨qJ, wy, c32, H⟩ := H
      ·generalize e_ : ((([(-1), 19, 20] : List Int)) : List Int) = Hg at H
       have DN := aa_.mk e_.symm; clear e_
       replace H := bd_ H; obtain ⟨⟨xu, J8, J9⟩, A34, H⟩ := H
       (try dsimp only at H)
       generalize e_ : ((bI.set (ca : Int).toNat (⟨xu, (ac_ bI ca).f1⟩ : S42)) : List (S42)) = Kb at H
       have Ny560 := aa_.mk e_.symm; clear e_
       obtain ⟨rfl, rfl, rfl⟩ := sq_ H; clear H
       obtain ⟨n0, j8, Cj⟩ := Kd.pW_ aA.out
       subst Cj
       go_wp2_with (first | ((with_reducible refine ae_ (f := 39) rfl ?_); refine gl_ 44 Tryz.func39 #[.pointer (some ⟨g, 0, none⟩), .int .i64 (bI.length : Int)] ?_; (with_reducible refine (ar_.calls g s0_0 dh di (bI.length : Int) ca mN mO w0 _ ?_ ?_ DM.out).mono ?_); exact (Z4 HI0); exact Z7; rintro e GU ⟨rfl, hi, hb, hk⟩; refine ⟨_, rfl, ?_⟩; refine k4_ (Wm_ aA) Wk_ (hb) (hi) ?_; clear aA HK HB HI0; intro aA HK HB HI0; (try clear hb hk hi); have iS : 0 ≤ (ca : Int) := of_decide_eq_true (Z8); have iT : ca < (bI.length : Int) := of_decide_eq_true (Z8); obtain ⟨zD, e550, iK, iL⟩ := cZ_ (Kd.pV_ aA.out).2.2 ca iS iT; cases e550; replace iS := eq_true iS; replace iT := eq_true iT) | ((with_reducible refine ae_ (f := 39) rfl ?_); refine gl_ 47 Tryz.func39 #[.pointer (some ⟨g, 0, none⟩), .int .i64 30] ?_; (with_reducible refine (ar_.calls g s0_0 mN mO 30 gy j6 j7 w0 _ ?_ ?_ Jg.out).mono ?_); exact (Z4 HI0); exact Z7; rintro e Jh ⟨rfl, hi, hb, hk⟩; refine ⟨_, rfl, ?_⟩; refine k4_ (Wm_ aA) Wk_ (hb) (hi) ?_; clear aA HK HB HI0; intro aA HK HB HI0; (try clear hb hk hi); have Nn : 0 ≤ (ca : Int) := of_decide_eq_true (Z8); have Ke : (ca : Int) < ((bI.length : Int) : Int) := of_decide_eq_true (Z8); obtain ⟨go33, co33, Kf, Kg, gl33, cl33, HG33⟩ := Kd.qs_ aA.out (by omega); (first | cases Kf | (injection Kf with ea_ en_ ec_; (first | subst ea_ | (injection ea_ with ea_; subst ea_)); subst ec_; clear en_)); have GB33 := aa_.mk Kg; have GG33 := aa_.mk HG33; clear Kg gl33 HG33; (first | simp only [bO_] at iK | skip); (first | simp only [bO_] at iL | skip); obtain ⟨ce33, hcl33, hM33, hcc33, hfr33⟩ := Kd.qm_ aA.out z42 (ca : Int) Nn Ke; obtain rfl := ep_ hM33; have hx33_0 : Jh.cell? ⟨go33, (ca : Int).toNat * 2, none⟩ = some (.int .i64 ((ac_ bI ca).f0)) := hcc33 0 _ rfl; have hx33_1 : Jh.cell? ⟨go33, (ca : Int).toNat * 2 + 1, none⟩ = some (.int .i64 ((ac_ bI ca).f1)) := hcc33 1 _ rfl; have hf33_0 : Jh.frozen? ⟨go33, (ca : Int).toNat * 2, none⟩ = false := hfr33 0; have hf33_1 : Jh.frozen? ⟨go33, (ca : Int).toNat * 2 + 1, none⟩ = false := hfr33 1; clear hcl33 hcc33 hfr33 hM33; replace Nn := eq_true Nn; replace Ke := eq_true Ke) | ((with_reducible refine au_ (N := 52) rfl ?_); refine lu_ (Kd.int .i64) 3 52 ([(-1), 19, 20] : List Int) [.int .i64 (-1), .int .i64 19, .int .i64 20] (aH_.one (show Kd.M (Kd.int .i64) _ _ _ (-1) [.int .i64 (-1)] from rfl) (aH_.one (show Kd.M (Kd.int .i64) _ _ _ 19 [.int .i64 19] from rfl) (aH_.one (show Kd.M (Kd.int .i64) _ _ _ 20 [.int .i64 20] from rfl) (aH_.none _ _)))) ?_; intro v555 uP ho39 hb hg_ hnew_; clear hg_ hnew_; (first | rw [← DN.out] at ho39 | (simp only [Int.reduceToNat] at ho39; rw [← DN.out] at ho39)); refine k5_ (Ya_ aA) (Kd.pY_ ho39 (a9_ (w := w) (g := g) (row := none) (Z6))) (aj_.below (Z4 HI0) hb) Wl_ (aq_ (Z7) hb) ?_; clear aA HI0 HK HB; intro aA i5 HI0 HK HB; clear hb ho39; obtain ⟨Ck, Cl, vl⟩ := Kd.pW_ i5.out; subst vl) | ((with_reducible refine ae_ (f := 75) rfl ?_); refine gl_ 53 Tryz.func75 #[.pointer (some ⟨g, 0, none⟩), .slice Ck Hg.length Cl] ?_; (with_reducible refine (aY_.calls g s0_0 j6 j7 _ _ Hg xu J8 J9 w0 _ ?_ ?_ ?_ ?_ ?_ A34.out).mono ?_); exact (Z4 HI0); exact Z7; exact (Z3 i5); exact (Kd.pV_ i5.out).2.1; exact ci_ (aj_.own_ne HI0.out i5.out (by decide)); rintro e BN ⟨rfl, hi, hb, hk⟩; refine ⟨_, rfl, ?_⟩; refine k5_ (Wm_ aA) (Wm_ i5) Wk_ (hb) (hi) ?_; clear aA i5 HK HB HI0; intro aA i5 HK HB HI0; (try clear hb hk hi); have HX42 := aa_.mk (show Kd.R k42 42 BN w.heap.size (fun _ => True) (.slice (some ⟨go33, 0, none⟩) bI.length j8) bI from (Z1 aA)); obtain ⟨ce42, hcl42, hM42, hcc42, hfr42⟩ := Kd.qm_ HX42.out z42 (ca : Int) (of_decide_eq_true (Z8)) (kX_); obtain rfl := ep_ hM42; have HP42 := Kd.qx_ HX42.out (ca : Int) (of_decide_eq_true (Z8)) (kX_) (seg := [.int .i64 xu]) (j := 0) hcl42 hcc42 (show 1 ≤ 2 from by decide) (x' := (⟨xu, (ac_ bI ca).f1⟩ : S42)) (cy_ _ _ _ (⟨xu, (ac_ bI ca).f1⟩ : S42) ) (fun _ hk => hk); have zE := hcc42 0 _ rfl; (try simp only [show (k42).sz = 2 from rfl, Nat.mul_one, Nat.add_zero] at zE); have hf42_0 := hfr42 0; (try simp only [show (k42).sz = 2 from rfl, Nat.mul_one, Nat.add_zero] at hf42_0); clear hcl42 hcc42 hfr42 hM42) | ((with_reducible refine cM_ (t := 3) (p := 55) rfl ?_); refine cB_ (t := 3) (p := 55) (v := ?vo_w43) (w1 := (BN.setCell ⟨go33, (ca : Int).toNat * 2, none⟩ (.int .i64 xu))) ?hg ?ho ?hn ?hr ?_; (case ho => rfl); (case hg => rfl); (case hn => rfl); (case hr => exact Z39); intro yj hw; have hg : BN.grownBy yj (some go33) := (by rw [hw]; exact HP42.2); have hp_ : Kd.R k42 42 yj w.heap.size (fun _ => True) (.slice (some ⟨go33, 0, none⟩) bI.length j8) Kb := (by rw [hw, Ny560.out]; exact HP42.1); clear HP42; refine k5_ (hp_) (aj_.grown (Z4 HI0) hg (aj_.own_ne HI0.out aA.out (by decide))) (Kd.qe_ (v := (.slice (some ⟨go33, 0, none⟩) bI.length j8)) (Z1 i5) (Kd.qd_ aA.out) (by decide) hg) ((by rw [hw]; exact aK_ (HB.out) (Nat.le_trans HL.out GB33.out) : Below w0.heap.size w0 yj)) (ag_.trans (Z6) (ag_.of_grown hg g) (Kd.qk_ aA.out)) ?_; clear aA HI0 i5 HB HK; intro aA HI0 i5 HB HK; clear hg hw hp_))
       go_ret
       exact ⟨_, Z9, Z1 aA, Z4 HI0, Z7, Z6⟩
      replace H := ic_ H; obtain ⟨zm, DO, H⟩ | ⟨zm, DO, c44, H⟩ := H
      ·generalize e_ : ((([(-1), 1999, 2000] : List Int)) : List Int) = Hh at H
       have DP := aa_.mk e_.symm; clear e_
       replace H := bd_ H; obtain ⟨⟨xv, Kh, Ki⟩, A46, H⟩ := H
       (try dsimp only at H)
       generalize e_ : ((bI.set (ca : Int).toNat (⟨(ac_ bI ca).f0, xv⟩ : S42)) : List (S42)) = Kk at H
       have Ny567 := aa_.mk e_.symm; clear e_
       obtain ⟨rfl, rfl, rfl⟩ := sq_ H; clear H
       obtain ⟨Ao47, Hi, eo47⟩ := Kd.pW_ aA.out
       subst eo47
       go_wp2_with (first | ((with_reducible refine ae_ (f := 39) rfl ?_); refine gl_ 44 Tryz.func39 #[.pointer (some ⟨g, 0, none⟩), .int .i64 (bI.length : Int)] ?_; (with_reducible refine (ar_.calls g s0_0 dh di (bI.length : Int) ca mN mO w0 _ ?_ ?_ DM.out).mono ?_); exact (Z4 HI0); exact Z7; rintro e N5 ⟨rfl, hi, hb, hk⟩; refine ⟨_, rfl, ?_⟩; refine k4_ (Wm_ aA) Wk_ (hb) (hi) ?_; clear aA HK HB HI0; intro aA HK HB HI0; (try clear hb hk hi); have iS : 0 ≤ (ca : Int) := of_decide_eq_true (Z8); have iT : ca < (bI.length : Int) := of_decide_eq_true (Z8); obtain ⟨zD, e550, iK, iL⟩ := cZ_ (Kd.pV_ aA.out).2.2 ca iS iT; cases e550; replace iS := eq_true iS; replace iT := eq_true iT) | ((with_reducible refine ae_ (f := 39) rfl ?_); refine gl_ 47 Tryz.func39 #[.pointer (some ⟨g, 0, none⟩), .int .i64 30] ?_; (with_reducible refine (ar_.calls g s0_0 mN mO 30 gy j6 j7 w0 _ ?_ ?_ Jg.out).mono ?_); exact (Z4 HI0); exact Z7; rintro e DQ ⟨rfl, hi, hb, hk⟩; refine ⟨_, rfl, ?_⟩; refine k4_ (Wm_ aA) Wk_ (hb) (hi) ?_; clear aA HK HB HI0; intro aA HK HB HI0; (try clear hb hk hi); have JR : 0 ≤ (ca : Int) := of_decide_eq_true (Z8); have JS : (ca : Int) < ((bI.length : Int) : Int) := of_decide_eq_true (Z8); obtain ⟨go45, Cb, oH, Kl, gl45, cl45, HG45⟩ := Kd.qs_ aA.out (by omega); (first | cases oH | (injection oH with ea_ en_ ec_; (first | subst ea_ | (injection ea_ with ea_; subst ea_)); subst ec_; clear en_)); have GB45 := aa_.mk Kl; have GG45 := aa_.mk HG45; clear Kl gl45 HG45; (first | simp only [bO_] at iK | skip); (first | simp only [bO_] at iL | skip); obtain ⟨ce45, hcl45, hM45, hcc45, hfr45⟩ := Kd.qm_ aA.out z42 (ca : Int) JR JS; obtain rfl := ep_ hM45; have hx45_0 : DQ.cell? ⟨go45, (ca : Int).toNat * 2, none⟩ = some (.int .i64 ((ac_ bI ca).f0)) := hcc45 0 _ rfl; have hx45_1 : DQ.cell? ⟨go45, (ca : Int).toNat * 2 + 1, none⟩ = some (.int .i64 ((ac_ bI ca).f1)) := hcc45 1 _ rfl; have hf45_0 : DQ.frozen? ⟨go45, (ca : Int).toNat * 2, none⟩ = false := hfr45 0; have hf45_1 : DQ.frozen? ⟨go45, (ca : Int).toNat * 2 + 1, none⟩ = false := hfr45 1; clear hcl45 hcc45 hfr45 hM45; replace JR := eq_true JR; replace JS := eq_true JS) | ((with_reducible refine au_ (N := 60) rfl ?_); refine lu_ (Kd.int .i64) 3 60 ([(-1), 1999, 2000] : List Int) [.int .i64 (-1), .int .i64 1999, .int .i64 2000] (aH_.one (show Kd.M (Kd.int .i64) _ _ _ (-1) [.int .i64 (-1)] from rfl) (aH_.one (show Kd.M (Kd.int .i64) _ _ _ 1999 [.int .i64 1999] from rfl) (aH_.one (show Kd.M (Kd.int .i64) _ _ _ 2000 [.int .i64 2000] from rfl) (aH_.none _ _)))) ?_; intro v562 u1 ho51 hb hg_ hnew_; clear hg_ hnew_; (first | rw [← DP.out] at ho51 | (simp only [Int.reduceToNat] at ho51; rw [← DP.out] at ho51)); refine k5_ (Ya_ aA) (Kd.pY_ ho51 (a9_ (w := w) (g := g) (row := none) (Z6))) (aj_.below (Z4 HI0) hb) Wl_ (aq_ (Z7) hb) ?_; clear aA HI0 HK HB; intro aA i6 HI0 HK HB; clear hb ho51; obtain ⟨Cm, Cn, zF⟩ := Kd.pW_ i6.out; subst zF) | ((with_reducible refine ae_ (f := 75) rfl ?_); refine gl_ 61 Tryz.func75 #[.pointer (some ⟨g, 0, none⟩), .slice Cm Hh.length Cn] ?_; (with_reducible refine (aY_.calls g s0_0 j6 j7 _ _ Hh xv Kh Ki w0 _ ?_ ?_ ?_ ?_ ?_ A46.out).mono ?_); exact (Z4 HI0); exact Z7; exact (Z3 i6); exact (Kd.pV_ i6.out).2.1; exact ci_ (aj_.own_ne HI0.out i6.out (by decide)); rintro e wv ⟨rfl, hi, hb, hk⟩; refine ⟨_, rfl, ?_⟩; refine k5_ (Wm_ aA) (Wm_ i6) Wk_ (hb) (hi) ?_; clear aA i6 HK HB HI0; intro aA i6 HK HB HI0; (try clear hb hk hi); have HX54 := aa_.mk (show Kd.R k42 42 wv w.heap.size (fun _ => True) (.slice (some ⟨go45, 0, none⟩) bI.length Hi) bI from (Z1 aA)); obtain ⟨ce54, hcl54, hM54, hcc54, hfr54⟩ := Kd.qm_ HX54.out z42 (ca : Int) (of_decide_eq_true (Z8)) (kX_); obtain rfl := ep_ hM54; have HP54 := Kd.qx_ HX54.out (ca : Int) (of_decide_eq_true (Z8)) (kX_) (seg := [.int .i64 xv]) (j := 1) hcl54 hcc54 (show 2 ≤ 2 from by decide) (x' := (⟨(ac_ bI ca).f0, xv⟩ : S42)) (cy_ _ _ _ (⟨(ac_ bI ca).f0, xv⟩ : S42) ) (fun _ hk => hk); have zG := hcc54 1 _ rfl; (try simp only [show (k42).sz = 2 from rfl, Nat.mul_one, Nat.add_zero] at zG); have hf54_1 := hfr54 1; (try simp only [show (k42).sz = 2 from rfl, Nat.mul_one, Nat.add_zero] at hf54_1); clear hcl54 hcc54 hfr54 hM54) | ((with_reducible refine cM_ (t := 3) (p := 63) rfl ?_); refine cB_ (t := 3) (p := 63) (v := ?vo_w55) (w1 := (wv.setCell ⟨go45, (ca : Int).toNat * 2 + 1, none⟩ (.int .i64 xv))) ?hg ?ho ?hn ?hr ?_; (case ho => rfl); (case hg => rfl); (case hn => rfl); (case hr => exact Z39); intro xq hw; have hg : wv.grownBy xq (some go45) := (by rw [hw]; exact HP54.2); have hp_ : Kd.R k42 42 xq w.heap.size (fun _ => True) (.slice (some ⟨go45, 0, none⟩) bI.length Hi) Kk := (by rw [hw, Ny567.out]; exact HP54.1); clear HP54; refine k5_ (hp_) (aj_.grown (Z4 HI0) hg (aj_.own_ne HI0.out aA.out (by decide))) (Kd.qe_ (v := (.slice (some ⟨go45, 0, none⟩) bI.length Hi)) (Z1 i6) (Kd.qd_ aA.out) (by decide) hg) ((by rw [hw]; exact aK_ (HB.out) (Nat.le_trans HL.out GB45.out) : Below w0.heap.size w0 xq)) (ag_.trans (Z6) (ag_.of_grown hg g) (Kd.qk_ aA.out)) ?_; clear aA HI0 i6 HB HK; intro aA HI0 i6 HB HK; clear hg hw hp_))
       go_ret
       exact ⟨_, Z9, Z1 aA, Z4 HI0, Z7, Z6⟩
      replace H := ic_ H; obtain ⟨DR, DS, H⟩ | ⟨DR, DS, c56, H⟩ := H
      ·replace H := bd_ H; obtain ⟨⟨xw, Co, Cp⟩, Np, H⟩ := H
       (try dsimp only at H)
       have H' := aa_.mk H
       clear H
       obtain ⟨Ao58, co58, eo58⟩ := Kd.pW_ aA.out
       subst eo58
       go_wp2_with (first | ((with_reducible refine ae_ (f := 39) rfl ?_); refine gl_ 44 Tryz.func39 #[.pointer (some ⟨g, 0, none⟩), .int .i64 (bI.length : Int)] ?_; (with_reducible refine (ar_.calls g s0_0 dh di (bI.length : Int) ca mN mO w0 _ ?_ ?_ DM.out).mono ?_); exact (Z4 HI0); exact Z7; rintro e N4 ⟨rfl, hi, hb, hk⟩; refine ⟨_, rfl, ?_⟩; refine k4_ (Wm_ aA) Wk_ (hb) (hi) ?_; clear aA HK HB HI0; intro aA HK HB HI0; (try clear hb hk hi); have iS : 0 ≤ (ca : Int) := of_decide_eq_true (Z8); have iT : ca < (bI.length : Int) := of_decide_eq_true (Z8); obtain ⟨zD, e550, iK, iL⟩ := cZ_ (Kd.pV_ aA.out).2.2 ca iS iT; cases e550; replace iS := eq_true iS; replace iT := eq_true iT) | ((with_reducible refine ae_ (f := 39) rfl ?_); refine gl_ 47 Tryz.func39 #[.pointer (some ⟨g, 0, none⟩), .int .i64 30] ?_; (with_reducible refine (ar_.calls g s0_0 mN mO 30 gy j6 j7 w0 _ ?_ ?_ Jg.out).mono ?_); exact (Z4 HI0); exact Z7; rintro e Hj ⟨rfl, hi, hb, hk⟩; refine ⟨_, rfl, ?_⟩; refine k4_ (Wm_ aA) Wk_ (hb) (hi) ?_; clear aA HK HB HI0; intro aA HK HB HI0; (try clear hb hk hi)) | ((with_reducible refine ae_ (f := 39) rfl ?_); refine gl_ 67 Tryz.func39 #[.pointer (some ⟨g, 0, none⟩), .int .i64 2] ?_; (with_reducible refine (ar_.calls g s0_0 j6 j7 2 xw Co Cp w0 _ ?_ ?_ Np.out).mono ?_); exact (Z4 HI0); exact Z7; rintro e Nq ⟨rfl, hi, hb, hk⟩; refine ⟨_, rfl, ?_⟩; refine k4_ (Wm_ aA) Wk_ (hb) (hi) ?_; clear aA HK HB HI0; intro aA HK HB HI0; (try clear hb hk hi)))
       (try simp only [Act.put, List.setIfInBounds_toArray, List.set_cons_zero, List.set_cons_succ])
       go_loopg [3] J7 (fun kq v3 w' => ∃ (j9 : List (S42)), aa_ (ah_.l1 kq j9 (wrap64 (200 + xw)) s0_0 Co Cp = some (r1, r2, r3)) ∧ aa_ (kq ≤ J7) ∧ aa_ (Kd.R k42 42 w' w.heap.size (fun _ => True) v3 j9) ∧ aa_ (aj_ w0 w' g s0_0 Co Cp) ∧ aa_ (ag_ w w' g none) ∧ aa_ (Below w0.heap.size w0 w'))
       case atStart => exact ⟨(bI), H', ⟨Nat.le_refl _⟩, ⟨Z1 aA⟩, ⟨Z4 HI0⟩, ⟨Z6⟩, ⟨Z7⟩⟩
       case round =>
        clear H'
        (try clear c27); (try clear d5); (try clear jF); (try clear nZ); (try clear oR); (try clear c32); (try clear qJ); (try clear wy); (try clear c44); (try clear zm); (try clear DO); (try clear c56); (try clear DR); (try clear DS)
        obtain ⟨j9, HA, HK3, aA, HI0, HK, HB⟩ := hrel
        cases gk with
        | zero => exact absurd HA.out (by simp [ah_.l1])
        | succ k3 =>
         have H := HA.out
         clear HA
         simp only [ah_.l1] at H
         replace H := iv_ H; obtain ⟨zo, H⟩ | ⟨zo, H⟩ := H
         ·replace H := ia_ H; obtain ⟨LMc63, H⟩ := H
          generalize e_ : ((j9 ++ [(⟨1, (j9.length : Int)⟩ : S42)]) : List (S42)) = Km at H
          have Ny571 := aa_.mk e_.symm; clear e_
          have H' := aa_.mk H
          clear H
          obtain ⟨Cq, Cr, vm⟩ := Kd.pW_ aA.out
          subst vm
          go_wp2_with (((with_reducible refine bh_ (b := .append) (xs := #[.tmp 73, .tmp 77]) rfl ?_); at_builtin; refine e4_ w.heap.size (.tmp 73) (.tmp 77) (.slice Cq j9.length Cr) j9 (⟨1, (j9.length : Int)⟩ : S42) [.int .i64 1, .int .i64 (j9.length : Int)] (fun _ => True) rfl rfl ?aP ?aF ?aO (Below.refl _ _) ?aS ?aL ?_; (case aP => exact cy_ _ _ _ (⟨1, (j9.length : Int)⟩ : S42)); (case aF => exact (fun _ _ => trivial)); (case aO => exact (Z1 aA)); (case aS => exact (a9_ (w := w) (g := g) (row := none) (Z6))); (case aL => exact Z91 LMc63); intro v572 Nr ho hb hg hat; rw [← Ny571.out] at ho; refine k4_ (aj_.grown (Z4 HI0) hg (aj_.own_ne HI0.out aA.out (by decide))) (cN_ (Z7) HL.out hb) (ag_.trans (Z6) (ag_.of_grown hg g) (Kd.qk_ aA.out)) (ho) ?_; clear HI0 HB HK aA; intro HI0 HB HK HO573; clear ho hb hg hat))
          go_roundg k3
          case measure => have := Jf.out; have := J6.out; have := HK3.out; omega
          case rel => exact ⟨(Km), H', ⟨by have := Jf.out; have := J6.out; have := HK3.out; omega⟩, ⟨Z1 HO573⟩, ⟨Z4 HI0⟩, ⟨Z6⟩, ⟨Z7⟩⟩
         obtain ⟨rfl, rfl, rfl⟩ := sq_ H; clear H
         obtain ⟨Hk, Hl, vn⟩ := Kd.pW_ aA.out
         subst vn
         go_wp2
         go_ret
         exact ⟨_, Z9, Z1 aA, Z4 HI0, Z7, Z6⟩
      obtain ⟨rfl, rfl, rfl⟩ := sq_ H; clear H
      obtain ⟨Hm, Hn, vo⟩ := Kd.pW_ aA.out
      subst vo
      go_wp2_with (first | ((with_reducible refine ae_ (f := 39) rfl ?_); refine gl_ 44 Tryz.func39 #[.pointer (some ⟨g, 0, none⟩), .int .i64 (bI.length : Int)] ?_; (with_reducible refine (ar_.calls g s0_0 dh di (bI.length : Int) ca mN mO w0 _ ?_ ?_ DM.out).mono ?_); exact (Z4 HI0); exact Z7; rintro e w68 ⟨rfl, hi, hb, hk⟩; refine ⟨_, rfl, ?_⟩; refine k4_ (Wm_ aA) Wk_ (hb) (hi) ?_; clear aA HK HB HI0; intro aA HK HB HI0; (try clear hb hk hi); have iS : 0 ≤ (ca : Int) := of_decide_eq_true (Z8); have iT : ca < (bI.length : Int) := of_decide_eq_true (Z8); obtain ⟨zD, e550, iK, iL⟩ := cZ_ (Kd.pV_ aA.out).2.2 ca iS iT; cases e550; replace iS := eq_true iS; replace iT := eq_true iT) | ((with_reducible refine ae_ (f := 39) rfl ?_); refine gl_ 47 Tryz.func39 #[.pointer (some ⟨g, 0, none⟩), .int .i64 30] ?_; (with_reducible refine (ar_.calls g s0_0 mN mO 30 gy j6 j7 w0 _ ?_ ?_ Jg.out).mono ?_); exact (Z4 HI0); exact Z7; rintro e w69 ⟨rfl, hi, hb, hk⟩; refine ⟨_, rfl, ?_⟩; refine k4_ (Wm_ aA) Wk_ (hb) (hi) ?_; clear aA HK HB HI0; intro aA HK HB HI0; (try clear hb hk hi)))
      go_ret
      exact ⟨_, Z9, Z1 aA, Z4 HI0, Z7, Z6⟩
     have d5 : decide (0 < (bI.length : Int)) = false := decide_eq_false c27
     have jF : decide (0 < bI.length) = false := decide_eq_false (by omega)
     clear c27
     obtain ⟨rfl, rfl, rfl⟩ := sq_ H; clear H
     obtain ⟨Ao70, co70, eo70⟩ := Kd.pW_ aA.out
     subst eo70
     go_wp2
     go_ret
     exact ⟨_, Z9, Z1 aA, Z4 HI0, Z7, Z6⟩
def b1_.f (s0_0 : List Int) (s0_1 : Int) (s0_2 : Int) : Option (Int × Int × Int) := (aY_.f s0_0 s0_1 s0_2 (([0, 51] : List Int))).bind fun hP => ((aY_.f s0_0 hP.2.1 hP.2.2 (([1, 2, 5, 50, hP.1] : List Int))).bind fun eX => (some (eX.1, eX.2.1, eX.2.2)))
set_option maxHeartbeats 8000000 in
set_option maxRecDepth 100000 in
theorem b1_.calls (g : Nat) (s0_0 : List Int) (s0_1 : Int) (s0_2 : Int) (r1 : Int) (r2 : Int) (r3 : Int) (w0 w : World) (hI : aj_ w0 w g s0_0 s0_1 s0_2) (hB : Below w0.heap.size w0 w) (h : b1_.f s0_0 s0_1 s0_2 = some (r1, r2, r3)) :
  Calls Tryz.prog 40 #[.pointer (some ⟨g, 0, none⟩)] w fun e w' => e = .returned (.int .i64 r1) ∧ aj_ w0 w' g s0_0 r2 r3 ∧ Below w0.heap.size w0 w' ∧ ag_ w w' g none := by
 have HI0 := aa_.mk hI
 have HK := aa_.mk (ag_.refl w g none)
 have HL := aa_.mk hB.size
 clear hI
 have HW0 := aa_.mk hB.size
 have HB := aa_.mk hB
 clear hB
 have H := h; unfold b1_.f at H
 clear h
 generalize e_ : ((([0, 51] : List Int)) : List Int) = Ho at H
 have DT := aa_.mk e_.symm; clear e_
 replace H := bd_ H; obtain ⟨⟨xx, zI, zJ⟩, A2, H⟩ := H
 (try dsimp only at H)
 generalize e_ : ((([1, 2, 5, 50, xx] : List Int)) : List Int) = Hp at H
 have DU := aa_.mk e_.symm; clear e_
 replace H := bd_ H; obtain ⟨⟨t583, t584, t585⟩, A3, H⟩ := H
 (try dsimp only at H)
 obtain ⟨rfl, rfl, rfl⟩ := sq_ H; clear H
 go_enter Tryz.func40, Tryz.ntmps40
 go_wp2_with (first | ((with_reducible refine au_ (N := 5) rfl ?_); refine lu_ (Kd.int .i64) 3 5 ([0, 51] : List Int) [.int .i64 0, .int .i64 51] (aH_.one (show Kd.M (Kd.int .i64) _ _ _ 0 [.int .i64 0] from rfl) (aH_.one (show Kd.M (Kd.int .i64) _ _ _ 51 [.int .i64 51] from rfl) (aH_.none _ _))) ?_; intro v575 w4 ho5 hb hg_ hnew_; clear hg_ hnew_; (first | rw [← DT.out] at ho5 | (simp only [Int.reduceToNat] at ho5; rw [← DT.out] at ho5)); refine k4_ (Kd.pY_ ho5 (a9_ (w := w) (g := g) (row := none) (Z6))) (aj_.below (Z4 HI0) hb) Wl_ (aq_ (Z7) hb) ?_; clear HI0 HK HB; intro fu HI0 HK HB; clear hb ho5; obtain ⟨NK, NL, NM⟩ := Kd.pW_ fu.out; subst NM) | ((with_reducible refine ae_ (f := 75) rfl ?_); refine gl_ 6 Tryz.func75 #[.pointer (some ⟨g, 0, none⟩), .slice NK Ho.length NL] ?_; (with_reducible refine (aY_.calls g s0_0 s0_1 s0_2 _ _ Ho xx zI zJ w0 _ ?_ ?_ ?_ ?_ ?_ A2.out).mono ?_); exact (Z4 HI0); exact Z7; exact (Z3 fu); exact (Kd.pV_ fu.out).2.1; exact ci_ (aj_.own_ne HI0.out fu.out (by decide)); rintro e w7 ⟨rfl, hi, hb, hk⟩; refine ⟨_, rfl, ?_⟩; refine k4_ (Wm_ fu) Wk_ (hb) (hi) ?_; clear fu HK HB HI0; intro fu HK HB HI0; (try clear hb hk hi)) | ((with_reducible refine au_ (N := 7) rfl ?_); refine lu_ (Kd.int .i64) 3 7 ([1, 2, 5, 50, xx] : List Int) [.int .i64 1, .int .i64 2, .int .i64 5, .int .i64 50, .int .i64 xx] (aH_.one (show Kd.M (Kd.int .i64) _ _ _ 1 [.int .i64 1] from rfl) (aH_.one (show Kd.M (Kd.int .i64) _ _ _ 2 [.int .i64 2] from rfl) (aH_.one (show Kd.M (Kd.int .i64) _ _ _ 5 [.int .i64 5] from rfl) (aH_.one (show Kd.M (Kd.int .i64) _ _ _ 50 [.int .i64 50] from rfl) (aH_.one (show Kd.M (Kd.int .i64) _ _ _ xx [.int .i64 xx] from rfl) (aH_.none _ _)))))) ?_; intro v581 w8 ho9 hb hg_ hnew_; clear hg_ hnew_; (first | rw [← DU.out] at ho9 | (simp only [Int.reduceToNat] at ho9; rw [← DU.out] at ho9)); refine k5_ (We_ fu ho9) (Kd.pY_ (Kd.p3_ ho9 (Yd_ fu)) (a9_ (w := w) (g := g) (row := none) (Z6))) (aj_.below (Z4 HI0) hb) Wl_ (aq_ (Z7) hb) ?_; clear fu HI0 HK HB; intro fu n1 HI0 HK HB; clear hb ho9; obtain ⟨xf, uG, mI⟩ := Kd.pW_ n1.out; subst mI) | ((with_reducible refine ae_ (f := 75) rfl ?_); refine gl_ 8 Tryz.func75 #[.pointer (some ⟨g, 0, none⟩), .slice xf Hp.length uG] ?_; (with_reducible refine (aY_.calls g s0_0 zI zJ _ _ Hp t583 t584 t585 w0 _ ?_ ?_ ?_ ?_ ?_ A3.out).mono ?_); exact (Z4 HI0); exact Z7; exact (Z3 n1); exact (Kd.pV_ n1.out).2.1; exact ci_ (aj_.own_ne HI0.out n1.out (by decide)); rintro e nI ⟨rfl, hi, hb, hk⟩; refine ⟨_, rfl, ?_⟩; refine k5_ (Wm_ fu) (Wm_ n1) Wk_ (hb) (hi) ?_; clear fu n1 HK HB HI0; intro fu n1 HK HB HI0; (try clear hb hk hi)))
 go_ret
 exact ⟨Z9, Z4 HI0, Z7, Z6⟩
def bq_.f (k : Nat) (l0 : List Int) : Option ((List (S42)) × Int) := (ah_.f k l0 0 0).bind fun fU => ((ar_.f l0 fU.2.1 fU.2.2 12).bind fun ei => (if (fU.1.length : Int) > (wrap64 (7 + (wrap64 (Int.tdiv ei.1 11)))) then (if 0 ≤ (wrap64 (7 + (wrap64 (Int.tdiv ei.1 11)))) then (if (wrap64 (7 + (wrap64 (Int.tdiv ei.1 11)))) ≤ (fU.1.length : Int) then ((b1_.f l0 ei.2.1 ei.2.2).bind fun n2 => (some ((fU.1.take ((wrap64 (7 + (wrap64 (Int.tdiv ei.1 11)))) : Int).toNat), n2.1))) else (none)) else (none)) else ((b1_.f l0 ei.2.1 ei.2.2).bind fun zK => (some (fU.1, zK.1)))))
theorem bq_.mono : ∀ a0 k, LeO (bq_.f k a0) (bq_.f (k + 1) a0) := by
 intro a0 k
 unfold bq_.f
 exact fx_
set_option maxHeartbeats 8000000 in
set_option maxRecDepth 100000 in
theorem bq_.calls (k : Nat) (A0 : Option Addr) (c0 : Nat) (l0 : List Int) (r1 : List (S42)) (r2 : Int) (w : World) (hr0 : Kd.C (Kd.int .u8) w A0 l0.length l0) (hc0 : l0.length ≤ c0) (h : bq_.f k l0 = some (r1, r2)) :
  Calls Tryz.prog 14 #[.slice A0 l0.length c0] w fun e w' => ∃ v0_ : Value, e = .returned (.tuple #[v0_, .int .i64 r2]) ∧ Kd.R k42 42 w' w.heap.size (fun _ => True) v0_ r1 ∧ Below w.heap.size w w' := by
 have hu54 := Tryz.underlying54
 have HR0 := aa_.mk hr0
 have HC0 := aa_.mk hc0
 clear hr0 hc0
 have HB := aa_.mk (Below.refl w.heap.size w)
 have H := h; unfold bq_.f at H
 clear h
 replace H := bd_ H; obtain ⟨⟨lX, xy, xz⟩, A2, H⟩ := H
 (try dsimp only at H)
 replace H := bd_ H; obtain ⟨⟨vp, sa, sb⟩, A3, H⟩ := H
 (try dsimp only at H)
 replace H := iw_ H; obtain ⟨c4, H⟩ | ⟨c4, H⟩ := H
 ·have da : decide ((wrap64 (7 + (wrap64 (Int.tdiv vp 11)))) < (lX.length : Int)) = true := decide_eq_true c4
  clear c4
  obtain ⟨xA, hji5⟩ : ∃ j_ : Int, (wrap64 (7 + (wrap64 (Int.tdiv vp 11)))) = j_ := ⟨_, rfl⟩
  (first | rw [hji5] at H | simp only [hji5] at H)
  (try rw [hji5] at da)
  (try rw [hji5] at A2)
  (try rw [hji5] at A3)
  have hji5w : (IntKind.i64.wrap (7 + (wrap64 (Int.tdiv vp 11)))) = xA := (bA_ _).trans hji5
  replace H := ie_ H; obtain ⟨cC, fR, H⟩ := H
  replace H := ie_ H; obtain ⟨dJ, Cs, H⟩ := H
  generalize e_ : ((lX.take ((xA) : Int).toNat) : List (S42)) = Hq at H
  have DV := aa_.mk e_.symm; clear e_
  replace H := bd_ H; obtain ⟨⟨Kn, t599, t600⟩, A8, H⟩ := H
  replace H : (some (Hq, Kn)) = some (r1, r2) := H
  obtain ⟨rfl, rfl⟩ := sp_ H; clear H
  go_enter Tryz.func14, Tryz.ntmps14
  go_wp2_with (first | ((with_reducible refine au_ (N := 9) rfl ?_); refine bv_ 9 54 #[.slice A0 l0.length c0, .int .i64 0, .int .u64 0] ?_; intro dj hg w9 hbox hb; refine k4_ Ws_ ((show aj_ w w9 dj l0 0 0 from ⟨_, _, hbox, (Z21), HR0.out⟩)) (Wg_ w dj) (Wg_ w dj) ?_; clear HB; intro HB HI586 GW586 GE586; clear hb hbox hg) | ((with_reducible refine ae_ (f := 38) rfl ?_); refine gl_ 11 Tryz.func38 #[.pointer (some ⟨dj, 0, none⟩)] ?_; (with_reducible refine (ah_.calls k dj l0 0 0 lX xy xz w _ ?_ ?_ A2.out).mono ?_); exact (Z4 HI586); exact Z59; rintro e jc ⟨v588, rfl, ho0, hi, hb, hk⟩; refine ⟨_, rfl, ?_⟩; refine k3_ (Kd.pY_ ho0 (ao_ (Z59))) (hb) (hi) ?_; clear HB HI586; intro ex HB HI586; (try clear hb hk hi ho0)) | ((with_reducible refine ae_ (f := 39) rfl ?_); refine gl_ 13 Tryz.func39 #[.pointer (some ⟨dj, 0, none⟩), .int .i64 12] ?_; (with_reducible refine (ar_.calls dj l0 xy xz 12 vp sa sb w _ ?_ ?_ A3.out).mono ?_); exact (Z4 HI586); exact Z59; rintro e nI ⟨rfl, hi, hb, hk⟩; refine ⟨_, rfl, ?_⟩; refine k3_ (Kd.pX_ (Kd.p8_ (aj_.apart (show aj_ w _ dj l0 xy xz from Z4 HI586) (Z1 ex) (by decide)) hk (fun _ h => h.2)) (fun _ h => h.1)) (hb) (hi) ?_; clear ex HB HI586; intro ex HB HI586; (try clear hb hk hi); obtain ⟨cO, bw, pI⟩ := Kd.pW_ ex.out; subst pI; have NP : ((xA) : Int) ≤ ((lX.length : Int) : Int) := of_decide_eq_true (Z8); obtain ⟨i013, hi013, _, hsz13, _⟩ := info_parts fQ_; have hcut13 := go_ (P := Tryz.prog) 26 42 .i64 Tryz.underlying26 hi013 cO lX.length bw (xA) (of_decide_eq_true (Z8)) NP (Kd.pV_ ex.out).2.1; have hr13 := Kd.qL_ (m := ((xA) : Int).toNat) ex.out (by omega); have Ko : Hq.length = ((xA) : Int).toNat := (je_ DV); rw [← DV.out] at hr13; rw [← Ko] at hr13 hcut13; clear Ko hi013 hsz13 ex; have wz := aa_.mk hr13; clear hr13; replace NP := eq_true NP) | ((with_reducible refine ae_ (f := 40) rfl ?_); refine gl_ 25 Tryz.func40 #[.pointer (some ⟨dj, 0, none⟩)] ?_; (with_reducible refine (b1_.calls dj l0 sa sb Kn t599 t600 w _ ?_ ?_ A8.out).mono ?_); exact (Z4 HI586); exact Z59; rintro e xg ⟨rfl, hi, hb, hk⟩; refine ⟨_, rfl, ?_⟩; refine k3_ (Kd.pX_ (Kd.p8_ (aj_.apart (show aj_ w _ dj l0 sa sb from Z4 HI586) (Z1 wz) (by decide)) hk (fun _ h => h.2)) (fun _ h => h.1)) (hb) (hi) ?_; clear wz HB HI586; intro wz HB HI586; (try clear hb hk hi)))
  go_ret2
  exact ⟨_, by first | rfl | (simp [cv_, cu_] <;> rfl) | (simp only [← hji5]; first | rfl | (simp [cv_, cu_] <;> rfl)) | (simp [*, cv_, cu_] <;> rfl), Z1 wz, Z59⟩
 have da : decide ((wrap64 (7 + (wrap64 (Int.tdiv vp 11)))) < (lX.length : Int)) = false := decide_eq_false c4
 clear c4
 replace H := bd_ H; obtain ⟨⟨Kp, t602, t603⟩, Nz, H⟩ := H
 replace H : (some (lX, Kp)) = some (r1, r2) := H
 obtain ⟨rfl, rfl⟩ := sp_ H; clear H
 go_enter Tryz.func14, Tryz.ntmps14
 go_wp2_with (first | ((with_reducible refine au_ (N := 9) rfl ?_); refine bv_ 9 54 #[.slice A0 l0.length c0, .int .i64 0, .int .u64 0] ?_; intro dj hg lR hbox hb; refine k4_ Ws_ ((show aj_ w lR dj l0 0 0 from ⟨_, _, hbox, (Z21), HR0.out⟩)) (Wg_ w dj) (Wg_ w dj) ?_; clear HB; intro HB HI586 GW586 GE586; clear hb hbox hg) | ((with_reducible refine ae_ (f := 38) rfl ?_); refine gl_ 11 Tryz.func38 #[.pointer (some ⟨dj, 0, none⟩)] ?_; (with_reducible refine (ah_.calls k dj l0 0 0 lX xy xz w _ ?_ ?_ A2.out).mono ?_); exact (Z4 HI586); exact Z59; rintro e oD ⟨v588, rfl, ho0, hi, hb, hk⟩; refine ⟨_, rfl, ?_⟩; refine k3_ (Kd.pY_ ho0 (ao_ (Z59))) (hb) (hi) ?_; clear HB HI586; intro ex HB HI586; (try clear hb hk hi ho0)) | ((with_reducible refine ae_ (f := 39) rfl ?_); refine gl_ 13 Tryz.func39 #[.pointer (some ⟨dj, 0, none⟩), .int .i64 12] ?_; (with_reducible refine (ar_.calls dj l0 xy xz 12 vp sa sb w _ ?_ ?_ A3.out).mono ?_); exact (Z4 HI586); exact Z59; rintro e Jj ⟨rfl, hi, hb, hk⟩; refine ⟨_, rfl, ?_⟩; refine k3_ (Kd.pX_ (Kd.p8_ (aj_.apart (show aj_ w _ dj l0 xy xz from Z4 HI586) (Z1 ex) (by decide)) hk (fun _ h => h.2)) (fun _ h => h.1)) (hb) (hi) ?_; clear ex HB HI586; intro ex HB HI586; (try clear hb hk hi); obtain ⟨lV, gl, nE⟩ := Kd.pW_ ex.out; subst nE) | ((with_reducible refine ae_ (f := 40) rfl ?_); refine gl_ 25 Tryz.func40 #[.pointer (some ⟨dj, 0, none⟩)] ?_; (with_reducible refine (b1_.calls dj l0 sa sb Kp t602 t603 w _ ?_ ?_ Nz.out).mono ?_); exact (Z4 HI586); exact Z59; rintro e Jd ⟨rfl, hi, hb, hk⟩; refine ⟨_, rfl, ?_⟩; refine k3_ (Kd.pX_ (Kd.p8_ (aj_.apart (show aj_ w _ dj l0 sa sb from Z4 HI586) (Z1 ex) (by decide)) hk (fun _ h => h.2)) (fun _ h => h.1)) (hb) (hi) ?_; clear ex HB HI586; intro ex HB HI586; (try clear hb hk hi)))
 go_ret2
 exact ⟨_, Z9, Z1 ex, Z59⟩
def co_.f (a0 : Int) : Option (Bool) := if a0 ≥ 1 then (some (decide (a0 ≤ 50))) else (some false)
set_option maxHeartbeats 8000000 in
set_option maxRecDepth 100000 in
theorem co_.calls (a0 : Int) (r : Bool) (w : World) (h : co_.f a0 = some r) :
  Calls Tryz.prog 41 #[.int .i64 a0] w fun e w' => e = .returned (.bool r) ∧ bH_ w w' := by
 have H := h; unfold co_.f at H
 clear h
 replace H := iw_ H; obtain ⟨c2, H⟩ | ⟨c2, H⟩ := H
 ·have dB : decide (1 ≤ a0) = true := decide_eq_true c2
  clear c2
  obtain rfl := Option.some.inj H
  go_enter Tryz.func41, Tryz.ntmps41
  go_wp2
  go_ret
  exact ⟨Z14, Z41⟩
 have dB : decide (1 ≤ a0) = false := decide_eq_false c2
 clear c2
 obtain rfl := Option.some.inj H
 go_enter Tryz.func41, Tryz.ntmps41
 go_wp2
 go_ret
 exact ⟨Z14, Z41⟩
end Go.Proofs.YtcpliaahkcbinaaGreatDoor.PFnStrokes
