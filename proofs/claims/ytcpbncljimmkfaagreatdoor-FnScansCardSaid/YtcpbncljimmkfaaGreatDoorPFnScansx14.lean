-- written by a program of this session: the kit's print, with outer functions of the session's own (wip/ext)
import Derived.Test.YtcpbncljimmkfaaGreatDoorPFnScansx0
import Derived.Test.YtcpbncljimmkfaaGreatDoorPFnScansx6
import Derived.Test.YtcpbncljimmkfaaGreatDoorPFnScansx7
import Derived.Test.YtcpbncljimmkfaaGreatDoorPFnScansx13
namespace Go.Proofs.YtcpbncljimmkfaaGreatDoor.PFnScans
open Go.RowKit Go.Proofs.YtcpbncljimmkfaaGreatDoorW.PrintWords Go.Proofs.YtcpbncljimmkfaaGreatDoorW.PrintLast Go.Proofs.YtcpbncljimmkfaaGreatDoorW.PrintMore
attribute [local go_sem] max2_int min2_int max_two min_two max_three min_three max_four min_four   -- for this text's walks alone
set_option linter.unusedVariables false
set_option linter.unusedSimpArgs false
theorem mo14_ {p : Prop} (h : p := by repeat' first | (with_reducible first | apply impl_IsSheet.mono | apply impl_IsSheet.mono | exact LeO.refl _ | exact LeO.none _ | refine LeO.ite ?_ ?_ | refine LeO.bind ?_ (fun _ => ?_)) | exact LeO.none _ | refine LeO.ite ?_ ?_ | refine LeO.bind ?_ (fun _ => ?_)) : p := h

/-! ### impl_sheetOf_1: function 66 -/
def impl_sheetOf_1.f (a0 : Int) (a1 : Int) (l2 : List (S55)) : Option (Bool) := if 0 ≤ a0 then (if a0 < (l2.length : Int) then (if 0 ≤ a1 then (if a1 < (l2.length : Int) then ((impl_holeLess.f ((rd_T55 l2 a0).f0) ((rd_T55 l2 a0).f1) ((rd_T55 l2 a0).f2) ((rd_T55 l2 a1).f0) ((rd_T55 l2 a1).f1) ((rd_T55 l2 a1).f2)).bind fun qF => (some qF)) else (none)) else (none)) else (none)) else (none)
def impl_sheetOf_1.T1 : Bool × List (List Nat × List Nat) := (true, [([], []), ([], []), ([0, 1], [0, 1]), ([2], [2]), ([], []), ([], []), ([4, 5], [4, 5]), ([6], [6]), ([3, 7], [3, 7]), ([8, 8, 0, 1, 2, 3, 4, 5, 6, 7, 8], [8])])
def impl_sheetOf_1.B1 : List Nat := [0, 0, 3, 7, 0, 0, 48, 112, 255, 511]
theorem impl_sheetOf_1.tab1 : rtab .any (opsOf Tryz.f66 1) = impl_sheetOf_1.T1 := by kernel_rfl
theorem impl_sheetOf_1.bits1 : waitsOk impl_sheetOf_1.T1.2 impl_sheetOf_1.B1 = true := by kernel_rfl
set_option maxHeartbeats 8000000 in
set_option maxRecDepth 100000 in
theorem impl_sheetOf_1.calls (a0 : Int) (a1 : Int) (p2 : Nat) (A2 : Option Addr) (c2 : Nat) (l2 : List (S55)) (r : Bool) (w : World) (hr2 : Kd.C k55 w A2 l2.length l2) (hc2 : l2.length ≤ c2) (hb2 : w.heap[p2]? = some (.cells #[.slice A2 l2.length c2] 24 (0, 0))) (h : impl_sheetOf_1.f a0 a1 l2 = some r) :
  Calls Tryz.prog 66 #[.int .i64 a0, .int .i64 a1, .pointer (some ⟨p2, 0, none⟩)] w fun e w' => e = .returned (.bool r) ∧ Below w.heap.size w w' := by
 have hu24 := Tryz.underlying24
 have hu55 := Tryz.underlying55
 have HR2 := Aside0.mk hr2
 have HC2 := Aside0.mk hc2
 clear hr2 hc2
 have HB := Aside0.mk (Below.refl w.heap.size w)
 have gp := Aside0.mk hb2
 clear hb2
 have H : (if 0 ≤ a0 then (if a0 < (l2.length : Int) then (if 0 ≤ a1 then (if a1 < (l2.length : Int) then ((impl_holeLess.f ((rd_T55 l2 a0).f0) ((rd_T55 l2 a0).f1) ((rd_T55 l2 a0).f2) ((rd_T55 l2 a1).f0) ((rd_T55 l2 a1).f1) ((rd_T55 l2 a1).f2)).bind fun qF => (some qF)) else (none)) else (none)) else (none)) else (none)) = some r := h
 clear h
 by_cases c4 : 0 ≤ a0
 case neg => rw [if_neg c4] at H; exact absurd H (by simp)
 rw [if_pos c4] at H
 have bZ : decide (0 ≤ a0) = true := decide_eq_true c4
 clear c4
 by_cases c5 : a0 < (l2.length : Int)
 case neg => rw [if_neg c5] at H; exact absurd H (by simp)
 rw [if_pos c5] at H
 have ci : decide (a0 < (l2.length : Int)) = true := decide_eq_true c5
 clear c5
 by_cases c6 : 0 ≤ a1
 case neg => rw [if_neg c6] at H; exact absurd H (by simp)
 rw [if_pos c6] at H
 have ck : decide (0 ≤ a1) = true := decide_eq_true c6
 clear c6
 by_cases c7 : a1 < (l2.length : Int)
 case neg => rw [if_neg c7] at H; exact absurd H (by simp)
 rw [if_pos c7] at H
 have cd : decide (a1 < (l2.length : Int)) = true := decide_eq_true c7
 clear c7
 obtain ⟨qF, A8, H⟩ := bd_ H
 replace H : (some qF) = some r := H
 obtain rfl := Option.some.inj H
 go_enter Tryz.func66, Tryz.ntmps66
 try go_wp2
 refine k2_ (blk_drew gp.out) (below_drew1 HB.out) ?_
 clear gp HB
 intro gp HB
 have yD : 0 ≤ (a0 : Int) := of_decide_eq_true (Z8)
 have yE : a0 < (l2.length : Int) := of_decide_eq_true (Z8)
 obtain ⟨eO, e552, gq, gr, gs⟩ := at_T55 HR2.out a0 yD yE
 have hw552_2 := gs
 have hw552_1 := gr
 have hw552_0 := gq
 cases e552
 replace gq := (HB.out.cell (World.block_lt_of_cell? w _ gq)).trans gq
 replace gr := (HB.out.cell (World.block_lt_of_cell? w _ gr)).trans gr
 replace gs := (HB.out.cell (World.block_lt_of_cell? w _ gs)).trans gs
 replace yD := eq_true yD
 replace yE := eq_true yE
 have yF : 0 ≤ (a1 : Int) := of_decide_eq_true (Z8)
 have yG : a1 < (l2.length : Int) := of_decide_eq_true (Z8)
 obtain ⟨ad553, e553, gt, gu, gv⟩ := at_T55 HR2.out a1 yF yG
 have hw553_2 := gv
 have hw553_1 := gu
 have hw553_0 := gt
 obtain rfl : eO = ad553 := (by injection e553)
 replace gt := (HB.out.cell (World.block_lt_of_cell? w _ gt)).trans gt
 replace gu := (HB.out.cell (World.block_lt_of_cell? w _ gu)).trans gu
 replace gv := (HB.out.cell (World.block_lt_of_cell? w _ gv)).trans gv
 replace yF := eq_true yF
 replace yG := eq_true yG
 refine start_ (n := 10) (S := fun w' => w'.cell? ⟨p2, 0, none⟩ = some (.slice (some eO) l2.length c2) ∧ w'.cell? (eO.add ((a0).toNat * 3)) = some (.int .i64 ((rd_T55 l2 a0).f0)) ∧ w'.cell? ⟨(eO.add ((a0).toNat * 3)).block, (eO.add ((a0).toNat * 3)).off + 1, none⟩ = some (.int .i64 ((rd_T55 l2 a0).f1)) ∧ w'.cell? ⟨(eO.add ((a0).toNat * 3)).block, (eO.add ((a0).toNat * 3)).off + 2, none⟩ = some (.int .i64 ((rd_T55 l2 a0).f2)) ∧ w'.cell? (eO.add ((a1).toNat * 3)) = some (.int .i64 ((rd_T55 l2 a1).f0)) ∧ w'.cell? ⟨(eO.add ((a1).toNat * 3)).block, (eO.add ((a1).toNat * 3)).off + 1, none⟩ = some (.int .i64 ((rd_T55 l2 a1).f1)) ∧ w'.cell? ⟨(eO.add ((a1).toNat * 3)).block, (eO.add ((a1).toNat * 3)).off + 2, none⟩ = some (.int .i64 ((rd_T55 l2 a1).f2))) (ds := []) (M_ 0 10) (by kernel_rfl) rfl rfl ⟨(blk_cell gp.out 0).trans rfl, ((HB.out.cell (World.block_lt_of_cell? w _ hw552_0)).trans hw552_0), ((HB.out.cell (World.block_lt_of_cell? w _ hw552_1)).trans hw552_1), ((HB.out.cell (World.block_lt_of_cell? w _ hw552_2)).trans hw552_2), ((HB.out.cell (World.block_lt_of_cell? w _ hw553_0)).trans hw553_0), ((HB.out.cell (World.block_lt_of_cell? w _ hw553_1)).trans hw553_1), ((HB.out.cell (World.block_lt_of_cell? w _ hw553_2)).trans hw553_2)⟩ (fun hHeld => ?_); refine with_tabW impl_sheetOf_1.tab1 impl_sheetOf_1.bits1 (fun HT_ HW_ => ?_)
 generalize w.drew = w9 at gp HB gq gr gs gt gu gv hHeld ⊢
 refine pu_ 1 7 (N_ 10 2) ?_
 refine pu_ 5 11 (N_ 10 34) ?_
 refine tk7_ 0 6 (N_ 10 35) hHeld ?_
 refine pu_ 2 8 (N_ 10 39) ?_
 refine tk7_ 3 9 (N_ 10 47) hHeld ?_
 refine tk7_ 4 10 (M_ 6 4) hHeld ?_
 refine pu_ 6 12 (M_ 7 3) ?_
 refine tk7_ 7 13 (M_ 8 2) hHeld ?_
 refine one_ (i := 8) (N := some 14) (M_ 9 1) rfl rfl (one_of HT_.out (by kernel_rfl)) (by decide) (fun K hK => ?_)
 refine goes_ Tryz.func55 (by kernel_rfl) rfl #[.agg #[.int .i64 ((rd_T55 l2 a0).f0), .int .i64 ((rd_T55 l2 a0).f1), .int .i64 ((rd_T55 l2 a0).f2)], .agg #[.int .i64 ((rd_T55 l2 a1).f0), .int .i64 ((rd_T55 l2 a1).f1), .int .i64 ((rd_T55 l2 a1).f2)]] (by rfl) rfl rfl (Z46) ?_
 with_reducible refine (impl_holeLess.calls ((rd_T55 l2 a0).f0) ((rd_T55 l2 a0).f1) ((rd_T55 l2 a0).f2) ((rd_T55 l2 a1).f0) ((rd_T55 l2 a1).f1) ((rd_T55 l2 a1).f2) qF _ A8.out).mono ?_
 rintro e pL ⟨rfl, hb⟩
 refine ⟨_, rfl, ?_⟩
 have n0_ := Aside0.mk (Ye_ gp)
 have n1_ := Aside0.mk (below_step (Z106) hb)
 clear gp
 clear HB
 have gp := n0_
 have HB := n1_
 clear n0_ n1_
 (try clear hb)
 (try clear hb2)
 refine hK.out _ _ ⟨(blk_cell gp.out 0).trans rfl, ((HB.out.cell (World.block_lt_of_cell? w _ hw552_0)).trans hw552_0), ((HB.out.cell (World.block_lt_of_cell? w _ hw552_1)).trans hw552_1), ((HB.out.cell (World.block_lt_of_cell? w _ hw552_2)).trans hw552_2), ((HB.out.cell (World.block_lt_of_cell? w _ hw553_0)).trans hw553_0), ((HB.out.cell (World.block_lt_of_cell? w _ hw553_1)).trans hw553_1), ((HB.out.cell (World.block_lt_of_cell? w _ hw553_2)).trans hw553_2)⟩ (fun hHeld => ?_)
 clear hK K
 refine norm_ (a' := ?_) ?_ ?_
 rotate_left
 ·show Act.put _ (some 14) _ = _
  simp only [Act.put, List.setIfInBounds_toArray, List.set_cons_zero, List.set_cons_succ, i64_w, i32_w]
  rfl
 refine pu_ 9 5 (M_ 10 0) ?_
 refine done_ (done_of HT_.out (by kernel_rfl)) ?_
 try go_wp2
 go_ret
 exact ⟨Z9, Z106⟩

/-- A state of type 55 at block g of W; what its slices lead to came in by w0. -/
def IsS55 (w0 W : World) (g : Nat) (f0 : Int) (f1 : Int) (f2 : Int) : Prop := W.heap[g]? = some (.cells #[.int .i64 f0, .int .i64 f1, .int .i64 f2] 55 (0, 0)) ∧ w0.heap.size ≤ g
theorem IsS55.grown {w0 W : World} {g : Nat} {f0 : Int} {f1 : Int} {f2 : Int} {W1 : World} {row : Option Nat} (h : IsS55 w0 W g f0 f1 f2) (hw : W.grownBy W1 row) (hne : some g ≠ row) : IsS55 w0 W1 g f0 f1 f2 := by
 obtain ⟨hb, hg⟩ := h
 exact ⟨blk_grown hb hw hne, hg⟩
theorem IsS55.own_neN {w0 W : World} {g : Nat} {f0 : Int} {f1 : Int} {f2 : Int} {α : Type} {d : Kd α} {e : Nat} {base : Nat} {ok : Nat → Prop} {v : Value} {xs : List α} (h : IsS55 w0 W g f0 f1 f2) (ho : Kd.N d e W base ok v xs) (ht : e ≠ 55) : some g ≠ v.ownBlock := by
 obtain ⟨hb, hg⟩ := h
 exact Kd.N_ne ho hb ht
theorem IsS55.fresh {w0 W : World} {g : Nat} {f0 : Int} {f1 : Int} {f2 : Int} (h : IsS55 w0 W g f0 f1 f2) : ∀ k, W.heap.size ≤ k → k ≠ g := by
 obtain ⟨hb, hg⟩ := h
 exact Kd.freshB hb
theorem IsS55.kept {w0 W : World} {g : Nat} {f0 : Int} {f1 : Int} {f2 : Int} {W1 : World} {S : Nat → Prop} (h : IsS55 w0 W g f0 f1 f2) (hk : Kept W W1 S) (hne : ¬ S g) : IsS55 w0 W1 g f0 f1 f2 := by
 obtain ⟨hb, hg⟩ := h
 exact ⟨blk_kept hb hk hne, hg⟩
theorem IsS55.below {w0 W : World} {g : Nat} {f0 : Int} {f1 : Int} {f2 : Int} {W1 : World} (h : IsS55 w0 W g f0 f1 f2) (hw : Below W.heap.size W W1) : IsS55 w0 W1 g f0 f1 f2 := h.grown (grown_of_below hw none) (by simp)
theorem IsS55.alloc {w0 W : World} {g : Nat} {f0 : Int} {f1 : Int} {f2 : Int} (h : IsS55 w0 W g f0 f1 f2) (o : Obj) : IsS55 w0 (W.alloc o) g f0 f1 f2 := h.below (below_alloc (Below.refl _ _) o)
theorem IsS55.drewN {w0 W : World} {g : Nat} {f0 : Int} {f1 : Int} {f2 : Int} (h : IsS55 w0 W g f0 f1 f2) (m : Nat) : IsS55 w0 (W.drewN m) g f0 f1 f2 := h
theorem IsS55.drew {w0 W : World} {g : Nat} {f0 : Int} {f1 : Int} {f2 : Int} (h : IsS55 w0 W g f0 f1 f2) : IsS55 w0 W.drew g f0 f1 f2 := h
theorem IsS55.at_ {w0 W : World} {g : Nat} {f0 : Int} {f1 : Int} {f2 : Int} {w' : World} {m : Nat} (hq : W.drewN m = w') (h : IsS55 w0 W g f0 f1 f2) : IsS55 w0 w' g f0 f1 f2 := by subst hq; exact IsS55.drewN h m
theorem IsS55.apart {w0 W : World} {g : Nat} {f0 : Int} {f1 : Int} {f2 : Int} {α : Type} {d : Kd α} {e : Nat} {base : Nat} {ok : Nat → Prop} {v : Value} {xs : List α} (h : IsS55 w0 W g f0 f1 f2) (ho : d.R e W base ok v xs) (ht : ∀ q, q ∈ e :: d.E → q ≠ 55) : d.R e W base (fun k => ok k ∧ k ≠ g) v xs := by
 obtain ⟨hb, hg⟩ := h
 exact Kd.R_types ho hb ht
theorem IsS55.own_ne {w0 W : World} {g : Nat} {f0 : Int} {f1 : Int} {f2 : Int} {α : Type} {d : Kd α} {e : Nat} {base : Nat} {ok : Nat → Prop} {v : Value} {xs : List α} (h : IsS55 w0 W g f0 f1 f2) (ho : d.R e W base ok v xs) (ht : e ≠ 55) : some g ≠ v.ownBlock := by
 obtain ⟨hb, hg⟩ := h
 exact Kd.R_ne ho hb ht
theorem IsS55.apartQ {w0 W : World} {g : Nat} {f0 : Int} {f1 : Int} {f2 : Int} {α : Type} {d : Kd α} {e : Nat} {base : Nat} {ok : Nat → Prop} {v : Value} {xs : List α} (h : IsS55 w0 W g f0 f1 f2) (ho : d.Q e W base ok v xs) (ht : ∀ q, q ∈ e :: d.E → q ≠ 55) : d.Q e W base (fun k => ok k ∧ k ≠ g) v xs := by
 obtain ⟨hb, hg⟩ := h
 exact Kd.Q_types ho hb ht
theorem IsS55.own_neQ {w0 W : World} {g : Nat} {f0 : Int} {f1 : Int} {f2 : Int} {α : Type} {d : Kd α} {e : Nat} {base : Nat} {ok : Nat → Prop} {v : Value} {xs : List α} (h : IsS55 w0 W g f0 f1 f2) (ho : d.Q e W base ok v xs) (ht : e ≠ 55) : some g ≠ v.ownBlock := by
 obtain ⟨hb, hg⟩ := h
 exact Kd.Q_ne ho hb ht
theorem IsS55.apartS {w0 W : World} {g : Nat} {f0 : Int} {f1 : Int} {f2 : Int} {α : Type} {d : Kd α} {e : Nat} {base : Nat} {ok : Nat → Prop} {v : Value} {xs : List α} (h : IsS55 w0 W g f0 f1 f2) (ho : d.S e W base ok v xs) (ht : ∀ q, q ∈ e :: d.E → q ≠ 55) : d.S e W base (fun k => ok k ∧ k ≠ g) v xs := by
 obtain ⟨hb, hg⟩ := h
 exact Kd.S_types ho hb ht
theorem IsS55.own_neS {w0 W : World} {g : Nat} {f0 : Int} {f1 : Int} {f2 : Int} {α : Type} {d : Kd α} {e : Nat} {base : Nat} {ok : Nat → Prop} {v : Value} {xs : List α} (h : IsS55 w0 W g f0 f1 f2) (ho : d.S e W base ok v xs) (ht : e ≠ 55) : some g ≠ v.ownBlock := by
 obtain ⟨hb, hg⟩ := h
 exact Kd.S_ne ho hb ht
theorem IsS55.lt {w0 W : World} {g : Nat} {f0 : Int} {f1 : Int} {f2 : Int} (h : IsS55 w0 W g f0 f1 f2) : g < W.heap.size := by
 obtain ⟨hb, hg⟩ := h
 exact blk_lt hb
theorem IsS55.ge {w0 W : World} {g : Nat} {f0 : Int} {f1 : Int} {f2 : Int} (h : IsS55 w0 W g f0 f1 f2) : w0.heap.size ≤ g := by
 obtain ⟨hb, hg⟩ := h
 exact hg
theorem IsS55.ne_blk {w0 W : World} {g : Nat} {f0 : Int} {f1 : Int} {f2 : Int} {a : Nat} {cs : Array Value} {t : TypeId} {fr : Nat × Nat} (h : IsS55 w0 W g f0 f1 f2) (hb2 : W.heap[a]? = some (.cells cs t fr)) (ht : t ≠ 55) : g ≠ a := by
 obtain ⟨hb, hg⟩ := h
 rintro rfl
 rw [hb] at hb2
 injection hb2 with hb2
 injection hb2 with _ ht2
 exact ht ht2.symm
theorem IsS55.far {w0 W : World} {g : Nat} {f0 : Int} {f1 : Int} {f2 : Int} {p : Addr} (h : IsS55 w0 W g f0 f1 f2) (hne : g ≠ p.block) (u : Value) : IsS55 w0 (W.setCell p u) g f0 f1 f2 := by
 obtain ⟨hb, hg⟩ := h
 exact ⟨blk_far hb hne u, hg⟩
theorem cellS55_0 {W : World} {g : Nat} {f0 : Int} {f1 : Int} {f2 : Int} (h : W.heap[g]? = some (.cells #[.int .i64 f0, .int .i64 f1, .int .i64 f2] 55 (0, 0))) : W.cell? ⟨g, 0, none⟩ = some (.int .i64 f0) := (blk_cell h 0).trans rfl
theorem IsS55.set_0 {w0 W : World} {g : Nat} {f0 : Int} {f1 : Int} {f2 : Int} (h : IsS55 w0 W g f0 f1 f2) (x : Int) : IsS55 w0 (W.setCell ⟨g, 0, none⟩ (.int .i64 x)) g x f1 f2 := by
 obtain ⟨hb, hg⟩ := h
 exact ⟨by simpa using blk_set hb 0 (.int .i64 x), hg⟩
theorem cellS55_1 {W : World} {g : Nat} {f0 : Int} {f1 : Int} {f2 : Int} (h : W.heap[g]? = some (.cells #[.int .i64 f0, .int .i64 f1, .int .i64 f2] 55 (0, 0))) : W.cell? ⟨g, 1, none⟩ = some (.int .i64 f1) := (blk_cell h 1).trans rfl
theorem IsS55.set_1 {w0 W : World} {g : Nat} {f0 : Int} {f1 : Int} {f2 : Int} (h : IsS55 w0 W g f0 f1 f2) (x : Int) : IsS55 w0 (W.setCell ⟨g, 1, none⟩ (.int .i64 x)) g f0 x f2 := by
 obtain ⟨hb, hg⟩ := h
 exact ⟨by simpa using blk_set hb 1 (.int .i64 x), hg⟩
theorem cellS55_2 {W : World} {g : Nat} {f0 : Int} {f1 : Int} {f2 : Int} (h : W.heap[g]? = some (.cells #[.int .i64 f0, .int .i64 f1, .int .i64 f2] 55 (0, 0))) : W.cell? ⟨g, 2, none⟩ = some (.int .i64 f2) := (blk_cell h 2).trans rfl
theorem IsS55.set_2 {w0 W : World} {g : Nat} {f0 : Int} {f1 : Int} {f2 : Int} (h : IsS55 w0 W g f0 f1 f2) (x : Int) : IsS55 w0 (W.setCell ⟨g, 2, none⟩ (.int .i64 x)) g f0 f1 x := by
 obtain ⟨hb, hg⟩ := h
 exact ⟨by simpa using blk_set hb 2 (.int .i64 x), hg⟩
theorem IsS55.new (w0 W : World) (f0 : Int) (f1 : Int) (f2 : Int) (hB : Below w0.heap.size w0 W) : IsS55 w0 (W.alloc (.cells #[.int .i64 f0, .int .i64 f1, .int .i64 f2] 55)) W.heap.size f0 f1 f2 := ⟨by simpa using heap_alloc_new W _, hB.size⟩
/-! ### impl_sheetOf: function 45: by this session -/
instance impl_sheetOf_inh : Inhabited S55 := ⟨z55⟩
def impl_holeLt (a b : S55) : Bool := decide (a.f1 < b.f1 ∨ (a.f1 = b.f1 ∧ a.f0 < b.f0))
theorem impl_holeLt.swo : Go.Sort.SWO impl_holeLt := by
 constructor
 ·intro x; unfold impl_holeLt; exact decide_eq_false (by omega)
 ·intro x y z h1 h2; unfold impl_holeLt at *; have := of_decide_eq_true h1; have := of_decide_eq_true h2; exact decide_eq_true (by omega)
 intro x y z h1 h2; unfold impl_holeLt at *; have := of_decide_eq_false h1; have := of_decide_eq_false h2; exact decide_eq_false (by omega)
/-- The row in order, where two that come before neither of them are the same. -/
def impl_sortHoles.f (l : List S55) : Option (List S55) := if l.length ≤ 8796093022208 ∧ ∀ a ∈ l, ∀ b ∈ l, impl_holeLt a b = false → impl_holeLt b a = false → a.f0 = b.f0 ∧ a.f1 = b.f1 ∧ a.f2 = b.f2 then some (l.mergeSort (fun a b => !impl_holeLt b a)) else none
theorem impl_sortHoles.uniq {l r ys : List S55} (h : impl_sortHoles.f l = some r) (hp : ys.Perm l) (hs : ys.Pairwise (fun a b => impl_holeLt b a = false)) : ys = r := by
 unfold impl_sortHoles.f at h
 split at h
 ·rename_i hc
  obtain rfl := Option.some.inj h
  have hO := impl_holeLt.swo
  have hm := List.mergeSort_perm l (fun a b => !impl_holeLt b a)
  have hq : (l.mergeSort (fun a b => !impl_holeLt b a)).Pairwise (fun a b => impl_holeLt b a = false) := by
   have := List.pairwise_mergeSort (le := fun a b => !impl_holeLt b a) (by
    intro a b c h1 h2
    simp only [Bool.not_eq_true'] at *
    exact hO.ntrans c b a h2 h1) (by
    intro a b
    simp only [Bool.or_eq_true, Bool.not_eq_true']
    by_cases h : impl_holeLt b a = true
    ·right
     cases h2 : impl_holeLt a b with
     | false => rfl
     | true => have := hO.trans a b a h2 h; rw [hO.irrefl] at this; cases this
    left; exact Bool.eq_false_iff.2 h) l
   exact this.imp (fun h => by simpa using h)
  refine order_unique (fun a b => impl_holeLt b a = false) ys _ (hp.trans hm.symm) hs hq (fun a ha b hb h1 h2 => ?_)
  have := hc.2 a (hp.mem_iff.1 ha) b (hp.mem_iff.1 hb) h2 h1
  obtain ⟨a0, a1, a2⟩ := a
  obtain ⟨b0, b1, b2⟩ := b
  simp only at this
  obtain ⟨rfl, rfl, rfl⟩ := this
  rfl
 cases h
theorem impl_sortHoles.short {l r : List S55} (h : impl_sortHoles.f l = some r) : l.length < 1152921504606846976 := by
 unfold impl_sortHoles.f at h
 split at h
 ·omega
 cases h
theorem impl_sheetOf_1.lt (i j : Nat) (l : List S55) (hi : i < l.length) (hj : j < l.length) : impl_sheetOf_1.f i j l = some (impl_holeLt l[i]! l[j]!) := by
 have e1 : rd_T55 l (i : Int) = l[i]! := by unfold rd_T55; rw [Int.toNat_natCast, List.getD_eq_getElem?_getD, List.getElem?_eq_getElem hi, getElem!_pos l i hi]; rfl
 have e2 : rd_T55 l (j : Int) = l[j]! := by unfold rd_T55; rw [Int.toNat_natCast, List.getD_eq_getElem?_getD, List.getElem?_eq_getElem hj, getElem!_pos l j hj]; rfl
 unfold impl_sheetOf_1.f
 rw [if_pos (by omega), if_pos (by omega), if_pos (by omega), if_pos (by omega), e1, e2]
 unfold impl_holeLess.f impl_holeLt
 split
 ·simp only [Option.bind_some, Option.some.injEq, decide_eq_decide]; omega
 simp only [Option.bind_some, Option.some.injEq, decide_eq_decide]; omega
noncomputable def impl_sheetOf.ie : TypeInfo := (Tryz.prog.info? 55).get (by kernel_rfl)
noncomputable def impl_sheetOf.it : TypeInfo := (Tryz.prog.info? 24).get (by kernel_rfl)
set_option maxHeartbeats 2000000 in
/-- sort.SliceStable with this closure, at a row of the call's own that a boxed variable holds. -/
theorem impl_sheetOf.sorts (xs zs : List S55) (A : Option Addr) (c : Nat) (gb base : Nat) (W : World) (hz : impl_sortHoles.f xs = some zs) (hR : Kd.R k55 55 W base (fun k_ => k_ ≠ gb) (.slice A xs.length c) xs)
  (hbx : W.heap[gb]? = some (.cells #[.slice A xs.length c] 24 (0, 0))) :
  Calls Tryz.prog 65 #[.iface 24 (.slice A xs.length c), .func (.func 66) #[] #[.pointer (some ⟨gb, 0, none⟩)]] W fun e' w' => e' = .returned (.tuple #[]) ∧
   xs.length = zs.length ∧ Kd.R k55 55 w' base (fun k_ => k_ ≠ gb) (.slice A zs.length c) zs ∧ w'.heap[gb]? = some (.cells #[.slice A zs.length c] 24 (0, 0)) ∧ W.grownBy w' (Value.ownBlock (.slice A xs.length c)) := by
 have hgb : gb < W.heap.size := (Array.getElem?_eq_some_iff.1 hbx).1
 have hne : some gb ≠ Value.ownBlock (.slice A xs.length c) := fun e => hR.1 gb e.symm rfl
 have hK : ∀ n, Lib.swapperK n impl_sheetOf.ie 25 = if n = 0 then 1 else if n = 1 then 2 else 9 := by
  intro n
  have a : impl_sheetOf.ie.hasPointers = false := by kernel_rfl
  have b : impl_sheetOf.ie.bytes = 24 := by kernel_rfl
  rcases Nat.lt_or_ge n 2 with h | h
  ·rcases Nat.eq_zero_or_pos n with h0 | h0
   ·subst h0; simp [Lib.swapperK]
   obtain rfl : n = 1 := by omega
   simp [Lib.swapperK]
  have c : (n == 0) = false := by simp; omega
  have d : (n == 1) = false := by simp; omega
  rw [if_neg (by omega), if_neg (by omega)]
  simp [Lib.swapperK, a, b, c, d]
 have hf : ∀ n, Tryz.prog.funcs.findIdx? (·.name == "internal/reflectlite" ++ ".Swapper$" ++ toString (Lib.swapperK n impl_sheetOf.ie 25)) = some (if n = 0 then 97 else if n = 1 then 98 else 105) := by
  intro n
  rw [hK]
  by_cases h0 : n = 0
  ·rw [if_pos h0, if_pos h0]; kernel_rfl
  rw [if_neg h0, if_neg h0]
  by_cases h1 : n = 1
  ·rw [if_pos h1, if_pos h1]; kernel_rfl
  rw [if_neg h1, if_neg h1]; kernel_rfl
 refine (sort_rows Tryz.laysGt8 24 55 impl_sheetOf.it impl_sheetOf.ie (by kernel_rfl) (by kernel_rfl) (by kernel_rfl) (by kernel_rfl) 25 (fun _ => by kernel_rfl) k55 (fun x => [.int .i64 x.f0, .int .i64 x.f1, .int .i64 x.f2]) (fun w base ok x cs => by show k55.M w base ok x cs ↔ _; exact ⟨k55_openM, fun h => h ▸ k55_mkM _ _ _ _⟩) (fun _ => rfl) (by kernel_rfl) (fun _ => by kernel_rfl) impl_holeLt impl_holeLt.swo 66 #[.pointer (some ⟨gb, 0, none⟩)]
  (enters_of Tryz.func66 (by kernel_rfl) rfl) false _ hf (fun n h2 args W => by
   rw [if_neg (by omega), if_neg (by omega)]
   exact run_callFunc_extern Tryz.func105 (by kernel_rfl) (by kernel_rfl) (by kernel_rfl) (e := Extern.ReflectliteSwapper.swap false) (by kernel_rfl) args W) A c xs base (fun k_ => k_ ≠ gb) W (impl_sortHoles.short hz) hR ?_).mono ?_
 ·intro W' ys hl hC hg i j hi hj
  have hb' : W'.heap[gb]? = some (.cells #[.slice A ys.length c] 24 (0, 0)) := by rw [hg.block gb hgb hne, hbx, hl]
  have hc : xs.length ≤ c := (Kd.R_reads' hR).2.1
  have := impl_sheetOf_1.calls i j gb A c ys (impl_holeLt ys[i]! ys[j]!) W' (by rw [hl]; exact hC) (by omega) hb' (impl_sheetOf_1.lt i j ys (by omega) (by omega))
  exact this.mono fun e w h => ⟨h.1, h.2⟩
 rintro e' w' ⟨he, ys, hp, hs, ho, hg⟩
 obtain rfl := impl_sortHoles.uniq hz hp hs
 have hl := hp.length_eq
 rw [← hl] at ho
 exact ⟨he, hl.symm, ho, by rw [hg.block gb hgb hne, hbx, hl], hg⟩
def impl_sheetOf.f (k : Nat) (l0 : List (S55)) : Option ((List (S55)) × Bool) := if (l0.length : Int) > 60 then (some (([] : List (S55)), false)) else ((slices_Clone_Hole.f l0).bind fun dS => ((impl_sortHoles.f dS).bind fun fI => ((impl_IsSheet.f k fI).bind fun hU => (if hU = true then (some (fI, true)) else (some (([] : List (S55)), false))))))
theorem impl_sheetOf.mono : ∀ a0 k, LeO (impl_sheetOf.f k a0) (impl_sheetOf.f (k + 1) a0) := by
 intro a0 k
 unfold impl_sheetOf.f
 exact mo14_
set_option maxHeartbeats 8000000 in
set_option maxRecDepth 100000 in
theorem impl_sheetOf.calls (k : Nat) (A0 : Option Addr) (c0 : Nat) (l0 : List (S55)) (r1 : List (S55)) (r2 : Bool) (w : World) (hr0 : Kd.C k55 w A0 l0.length l0) (hc0 : l0.length ≤ c0) (h : impl_sheetOf.f k l0 = some (r1, r2)) :
  Calls Tryz.prog 45 #[.slice A0 l0.length c0] w fun e w' => ∃ v0_ : Value, e = .returned (.tuple #[v0_, .bool r2]) ∧ Kd.R k55 55 w' w.heap.size (fun _ => True) v0_ r1 ∧ Below w.heap.size w w' := by
 have HR0 := Aside0.mk hr0
 have HC0 := Aside0.mk hc0
 clear hr0 hc0
 have HB := Aside0.mk (Below.refl w.heap.size w)
 have H : (if (l0.length : Int) > 60 then (some (([] : List (S55)), false)) else ((slices_Clone_Hole.f l0).bind fun dS => ((impl_sortHoles.f dS).bind fun fI => ((impl_IsSheet.f k fI).bind fun hU => (if hU = true then (some (fI, true)) else (some (([] : List (S55)), false))))))) = some (r1, r2) := h
 clear h
 by_cases c2 : (l0.length : Int) > 60
 ·rw [if_pos c2] at H
  have eu : decide (60 < (l0.length : Int)) = true := decide_eq_true c2
  have qG : decide (60 < l0.length) = true := decide_eq_true (by omega)
  clear c2
  simp only [Option.some.injEq, Prod.mk.injEq] at H
  obtain ⟨rfl, rfl⟩ := H
  go_enter Tryz.func45, Tryz.ntmps45
  go_wp2
  go_ret2
  exact ⟨_, Z9, Z15, Z2⟩
 rw [if_neg c2] at H
 have eu : decide (60 < (l0.length : Int)) = false := decide_eq_false c2
 have qG : decide (60 < l0.length) = false := decide_eq_false (by omega)
 clear c2
 obtain ⟨dS, A3, H⟩ := bd_ H
 (try dsimp only at H)
 obtain ⟨fI, A4, H⟩ := bd_ H
 (try dsimp only at H)
 obtain ⟨hU, A5, H⟩ := bd_ H
 (try dsimp only at H)
 by_cases c6 : hU = true
 ·subst c6
  rw [if_pos rfl] at H
  simp only [Option.some.injEq, Prod.mk.injEq] at H
  obtain ⟨rfl, rfl⟩ := H
  go_enter Tryz.func45, Tryz.ntmps45
  go_wp2_with (first | ((with_reducible refine gate_callee (f := 64) rfl ?_); refine gl_ 9 Tryz.func64 #[.slice A0 l0.length c0] ?_; (with_reducible refine (slices_Clone_Hole.calls _ _ l0 dS _ ?_ ?_ A3.out).mono ?_); exact (Z10 HR0); exact HC0.out; rintro e w7 ⟨v232, rfl, ho0, hb⟩; refine ⟨_, rfl, ?_⟩; refine k2_ (Kd.R_lower ho0 (below_size (Z2))) (below_step (Z2) hb) ?_; clear HB; intro dK HB; (try clear hb ho0); obtain ⟨sn, so, AN⟩ := Kd.R_slice dK.out; subst AN) | ((with_reducible refine gate_dst (N := 4) rfl ?_); refine bv_ 4 24 #[.slice none 0 0] ?_; intro gbS hg wS hbox hb; refine k4_ (Kd.R_mono (Kd.R_below (Kd.R_elderB (Z3 dK) gbS (Nat.le_of_eq hg.symm)) hb) (ok' := fun k_ => k_ ≠ gbS) (fun _ hk => hk.2)) (below_step (Z2) hb) hbox ((Z33 : w.heap.size ≤ gbS)) ?_; clear dK HB; intro dK HB BKS GES; clear hb hbox hg; have hcS : wS.cell? ⟨gbS, 0, none⟩ = some (.slice none 0 0) := (blk_cell BKS.out 0).trans rfl; have hfS := blk_frozen BKS.out 0) | ((with_reducible refine gate_callee (f := 65) rfl ?_); refine goesL_ (some 13) rfl rfl Tryz.func65 (by kernel_rfl) rfl #[.iface 24 (.slice sn dS.length so), .func (.func 66) #[] #[.pointer (some ⟨gbS, 0, none⟩)]] rfl (Z107) ?_; refine (impl_sheetOf.sorts dS fI sn so gbS w.heap.size (wS.setCell ⟨gbS, 0, none⟩ (.slice sn dS.length so)) A4.out (Kd.R_far (p := ⟨gbS, 0, none⟩) dK.out (fun _ hk => hk) (.slice sn dS.length so)) (blk_put (cs := #[.slice none 0 0]) BKS.out 0 (.slice sn dS.length so) rfl)).mono ?_; rintro e wT ⟨rfl, hln, ho, hbx, hg⟩; refine ⟨_, rfl, ?_⟩; have n1_ := Aside0.mk ((below_set HB.out GES.out).grown hg (by first | exact below_size (below_set HB.out GES.out) | exact (below_set HB.out GES.out).size) (fun k_ hk_ => Kd.R_base dK.out k_ hk_)); clear dK HB BKS hcS hfS hg; have dW := Aside0.mk ho; have HB := n1_; have BKS := Aside0.mk hbx; clear ho hbx n1_; have hcS : wT.cell? ⟨gbS, 0, none⟩ = some (.slice sn fI.length so) := (blk_cell BKS.out 0).trans rfl; rw [hln]) | ((with_reducible refine gate_callee (f := 28) rfl ?_); refine gl_ 15 Tryz.func28 #[.slice sn fI.length so] ?_; (with_reducible refine (impl_IsSheet.calls k _ _ fI true _ ?_ ?_ A5.out).mono ?_); exact (Z1 dW); exact (Kd.R_reads' dW.out).2.1; rintro e g3 ⟨rfl, hb⟩; refine ⟨_, rfl, ?_⟩; have n0_ := Aside0.mk (blk_below (g := gbS) BKS.out hb); have n1_ := Aside0.mk (Ya_ dW); have n2_ := Aside0.mk (below_step (Z2) hb); clear dW; clear HB; clear BKS hcS; have BKS := n0_; have hcS : g3.cell? ⟨gbS, 0, none⟩ = some (.slice sn fI.length so) := (blk_cell BKS.out 0).trans rfl; have dW := n1_; have HB := n2_; clear n0_ n1_ n2_; (try clear hb)))
  go_ret2
  exact ⟨_, Z9, Z25 dW, Z2⟩
 replace c6 := Bool.eq_false_iff.mpr c6
 subst c6
 rw [if_neg (show ¬ (false = true) by decide)] at H
 simp only [Option.some.injEq, Prod.mk.injEq] at H
 obtain ⟨rfl, rfl⟩ := H
 go_enter Tryz.func45, Tryz.ntmps45
 go_wp2_with (first | ((with_reducible refine gate_callee (f := 64) rfl ?_); refine gl_ 9 Tryz.func64 #[.slice A0 l0.length c0] ?_; (with_reducible refine (slices_Clone_Hole.calls _ _ l0 dS _ ?_ ?_ A3.out).mono ?_); exact (Z10 HR0); exact HC0.out; rintro e uc ⟨v232, rfl, ho0, hb⟩; refine ⟨_, rfl, ?_⟩; refine k2_ (Kd.R_lower ho0 (below_size (Z2))) (below_step (Z2) hb) ?_; clear HB; intro dK HB; (try clear hb ho0); obtain ⟨fJ, fK, o6⟩ := Kd.R_slice dK.out; subst o6) | ((with_reducible refine gate_dst (N := 4) rfl ?_); refine bv_ 4 24 #[.slice none 0 0] ?_; intro gbS hg wS hbox hb; refine k4_ (Kd.R_mono (Kd.R_below (Kd.R_elderB (Z3 dK) gbS (Nat.le_of_eq hg.symm)) hb) (ok' := fun k_ => k_ ≠ gbS) (fun _ hk => hk.2)) (below_step (Z2) hb) hbox ((Z33 : w.heap.size ≤ gbS)) ?_; clear dK HB; intro dK HB BKS GES; clear hb hbox hg; have hcS : wS.cell? ⟨gbS, 0, none⟩ = some (.slice none 0 0) := (blk_cell BKS.out 0).trans rfl; have hfS := blk_frozen BKS.out 0) | ((with_reducible refine gate_callee (f := 65) rfl ?_); refine goesL_ (some 13) rfl rfl Tryz.func65 (by kernel_rfl) rfl #[.iface 24 (.slice fJ dS.length fK), .func (.func 66) #[] #[.pointer (some ⟨gbS, 0, none⟩)]] rfl (Z107) ?_; refine (impl_sheetOf.sorts dS fI fJ fK gbS w.heap.size (wS.setCell ⟨gbS, 0, none⟩ (.slice fJ dS.length fK)) A4.out (Kd.R_far (p := ⟨gbS, 0, none⟩) dK.out (fun _ hk => hk) (.slice fJ dS.length fK)) (blk_put (cs := #[.slice none 0 0]) BKS.out 0 (.slice fJ dS.length fK) rfl)).mono ?_; rintro e wT ⟨rfl, hln, ho, hbx, hg⟩; refine ⟨_, rfl, ?_⟩; have n1_ := Aside0.mk ((below_set HB.out GES.out).grown hg (by first | exact below_size (below_set HB.out GES.out) | exact (below_set HB.out GES.out).size) (fun k_ hk_ => Kd.R_base dK.out k_ hk_)); clear dK HB BKS hcS hfS hg; have dW := Aside0.mk ho; have HB := n1_; have BKS := Aside0.mk hbx; clear ho hbx n1_; have hcS : wT.cell? ⟨gbS, 0, none⟩ = some (.slice fJ fI.length fK) := (blk_cell BKS.out 0).trans rfl; rw [hln]) | ((with_reducible refine gate_callee (f := 28) rfl ?_); refine gl_ 15 Tryz.func28 #[.slice fJ fI.length fK] ?_; (with_reducible refine (impl_IsSheet.calls k _ _ fI false _ ?_ ?_ A5.out).mono ?_); exact (Z1 dW); exact (Kd.R_reads' dW.out).2.1; rintro e mx ⟨rfl, hb⟩; refine ⟨_, rfl, ?_⟩; have n0_ := Aside0.mk (blk_below (g := gbS) BKS.out hb); have n1_ := Aside0.mk (Ya_ dW); have n2_ := Aside0.mk (below_step (Z2) hb); clear dW; clear HB; clear BKS hcS; have BKS := n0_; have hcS : mx.cell? ⟨gbS, 0, none⟩ = some (.slice fJ fI.length fK) := (blk_cell BKS.out 0).trans rfl; have dW := n1_; have HB := n2_; clear n0_ n1_ n2_; (try clear hb)))
 go_ret2
 exact ⟨_, Z9, Z15, Z2⟩

end Go.Proofs.YtcpbncljimmkfaaGreatDoor.PFnScans
