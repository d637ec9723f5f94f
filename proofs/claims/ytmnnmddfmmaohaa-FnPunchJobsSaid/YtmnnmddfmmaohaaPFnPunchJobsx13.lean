-- written by a program of this session: the kit's print, with outer functions of the session's own (wip/ext)
import Derived.Test.YtmnnmddfmmaohaaPFnPunchJobsx0
import Derived.Test.YtmnnmddfmmaohaaPFnPunchJobsx9
import Derived.Test.YtmnnmddfmmaohaaPFnPunchJobsx10
import Derived.Test.YtmnnmddfmmaohaaPFnPunchJobsx11
import Derived.Test.YtmnnmddfmmaohaaPFnPunchJobsx12
namespace Go.Proofs.Ytmnnmddfmmaohaa.PFnPunchJobs
open Go.RowKit Go.Proofs.YtmnnmddfmmaohaaW.PrintWords Go.Proofs.YtmnnmddfmmaohaaW.PrintLast Go.Proofs.YtmnnmddfmmaohaaW.PrintMore
attribute [local go_sem] max2_int min2_int max_two min_two max_three min_three max_four min_four   -- for this text's walks alone
set_option linter.unusedVariables false
set_option linter.unusedSimpArgs false
theorem mo13_ {p : Prop} (h : p := by repeat' first | (with_reducible first | apply ih0 | apply ih0 | apply impl_IsSheet.mono | apply impl_IsSheet.mono | apply impl_sheetOf.mono | apply impl_sheetOf.mono | exact LeO.refl _ | exact LeO.none _ | refine LeO.ite ?_ ?_ | refine LeO.bind ?_ (fun _ => ?_)) | exact LeO.none _ | refine LeO.ite ?_ ?_ | refine LeO.bind ?_ (fun _ => ?_)) : p := h

/-! ### impl_sheetOf_1: function 123 -/
def impl_sheetOf_1.f (a0 : Int) (a1 : Int) (l2 : List (S90)) : Option (Bool) := if 0 ≤ a0 then (if a0 < (l2.length : Int) then (if 0 ≤ a1 then (if a1 < (l2.length : Int) then ((impl_holeLess.f ((rd_T90 l2 a0).f0) ((rd_T90 l2 a0).f1) ((rd_T90 l2 a0).f2) ((rd_T90 l2 a1).f0) ((rd_T90 l2 a1).f1) ((rd_T90 l2 a1).f2)).bind fun xV => (some xV)) else (none)) else (none)) else (none)) else (none)
def impl_sheetOf_1.T1 : Bool × List (List Nat × List Nat) := (true, [([], []), ([], []), ([0, 1], [0, 1]), ([2], [2]), ([], []), ([], []), ([4, 5], [4, 5]), ([6], [6]), ([3, 7], [3, 7]), ([8, 8, 0, 1, 2, 3, 4, 5, 6, 7, 8], [8])])
def impl_sheetOf_1.B1 : List Nat := [0, 0, 3, 7, 0, 0, 48, 112, 255, 511]
theorem impl_sheetOf_1.tab1 : rtab .any (opsOf Try.f123 1) = impl_sheetOf_1.T1 := by kernel_rfl
theorem impl_sheetOf_1.bits1 : waitsOk impl_sheetOf_1.T1.2 impl_sheetOf_1.B1 = true := by kernel_rfl
set_option maxHeartbeats 8000000 in
set_option maxRecDepth 100000 in
theorem impl_sheetOf_1.calls (a0 : Int) (a1 : Int) (p2 : Nat) (A2 : Option Addr) (c2 : Nat) (l2 : List (S90)) (r : Bool) (w : World) (hr2 : Kd.C k90 w A2 l2.length l2) (hc2 : l2.length ≤ c2) (hb2 : w.heap[p2]? = some (.cells #[.slice A2 l2.length c2] 42 (0, 0))) (h : impl_sheetOf_1.f a0 a1 l2 = some r) :
  Calls Try.prog 123 #[.int .i64 a0, .int .i64 a1, .pointer (some ⟨p2, 0, none⟩)] w fun e w' => e = .returned (.bool r) ∧ Below w.heap.size w w' := by
 have hu42 := Try.underlying42
 have hu90 := Try.underlying90
 have HR2 := Aside0.mk hr2
 have HC2 := Aside0.mk hc2
 clear hr2 hc2
 have HB := Aside0.mk (Below.refl w.heap.size w)
 have nh := Aside0.mk hb2
 clear hb2
 have H : (if 0 ≤ a0 then (if a0 < (l2.length : Int) then (if 0 ≤ a1 then (if a1 < (l2.length : Int) then ((impl_holeLess.f ((rd_T90 l2 a0).f0) ((rd_T90 l2 a0).f1) ((rd_T90 l2 a0).f2) ((rd_T90 l2 a1).f0) ((rd_T90 l2 a1).f1) ((rd_T90 l2 a1).f2)).bind fun xV => (some xV)) else (none)) else (none)) else (none)) else (none)) = some r := h
 clear h
 by_cases c4 : 0 ≤ a0
 case neg => rw [if_neg c4] at H; exact absurd H (by simp)
 rw [if_pos c4] at H
 have go : decide (0 ≤ a0) = true := decide_eq_true c4
 clear c4
 by_cases c5 : a0 < (l2.length : Int)
 case neg => rw [if_neg c5] at H; exact absurd H (by simp)
 rw [if_pos c5] at H
 have gW : decide (a0 < (l2.length : Int)) = true := decide_eq_true c5
 clear c5
 by_cases c6 : 0 ≤ a1
 case neg => rw [if_neg c6] at H; exact absurd H (by simp)
 rw [if_pos c6] at H
 have nR : decide (0 ≤ a1) = true := decide_eq_true c6
 clear c6
 by_cases c7 : a1 < (l2.length : Int)
 case neg => rw [if_neg c7] at H; exact absurd H (by simp)
 rw [if_pos c7] at H
 have sS : decide (a1 < (l2.length : Int)) = true := decide_eq_true c7
 clear c7
 obtain ⟨xV, A8, H⟩ := bd_ H
 replace H : (some xV) = some r := H
 obtain rfl := Option.some.inj H
 go_enter Try.func123, Try.ntmps123
 try go_wp2
 refine k2_ (blk_drew nh.out) (below_drew1 HB.out) ?_
 clear nh HB
 intro nh HB
 have FJ : 0 ≤ (a0 : Int) := of_decide_eq_true (Z21)
 have FL : a0 < (l2.length : Int) := of_decide_eq_true (Z21)
 obtain ⟨jP, e578, ni, nj, nk⟩ := at_T90 HR2.out a0 FJ FL
 have hw578_2 := nk
 have hw578_1 := nj
 have hw578_0 := ni
 cases e578
 replace ni := (HB.out.cell (World.block_lt_of_cell? w _ ni)).trans ni
 replace nj := (HB.out.cell (World.block_lt_of_cell? w _ nj)).trans nj
 replace nk := (HB.out.cell (World.block_lt_of_cell? w _ nk)).trans nk
 replace FJ := eq_true FJ
 replace FL := eq_true FL
 have FM : 0 ≤ (a1 : Int) := of_decide_eq_true (Z21)
 have FN : a1 < (l2.length : Int) := of_decide_eq_true (Z21)
 obtain ⟨ad579, e579, nl, nm, nn⟩ := at_T90 HR2.out a1 FM FN
 have hw579_2 := nn
 have hw579_1 := nm
 have hw579_0 := nl
 obtain rfl : jP = ad579 := (by injection e579)
 replace nl := (HB.out.cell (World.block_lt_of_cell? w _ nl)).trans nl
 replace nm := (HB.out.cell (World.block_lt_of_cell? w _ nm)).trans nm
 replace nn := (HB.out.cell (World.block_lt_of_cell? w _ nn)).trans nn
 replace FM := eq_true FM
 replace FN := eq_true FN
 refine start_ (n := 10) (S := fun w' => w'.cell? ⟨p2, 0, none⟩ = some (.slice (some jP) l2.length c2) ∧ w'.cell? (jP.add ((a0).toNat * 3)) = some (.int .i64 ((rd_T90 l2 a0).f0)) ∧ w'.cell? ⟨(jP.add ((a0).toNat * 3)).block, (jP.add ((a0).toNat * 3)).off + 1, none⟩ = some (.int .i64 ((rd_T90 l2 a0).f1)) ∧ w'.cell? ⟨(jP.add ((a0).toNat * 3)).block, (jP.add ((a0).toNat * 3)).off + 2, none⟩ = some (.int .i64 ((rd_T90 l2 a0).f2)) ∧ w'.cell? (jP.add ((a1).toNat * 3)) = some (.int .i64 ((rd_T90 l2 a1).f0)) ∧ w'.cell? ⟨(jP.add ((a1).toNat * 3)).block, (jP.add ((a1).toNat * 3)).off + 1, none⟩ = some (.int .i64 ((rd_T90 l2 a1).f1)) ∧ w'.cell? ⟨(jP.add ((a1).toNat * 3)).block, (jP.add ((a1).toNat * 3)).off + 2, none⟩ = some (.int .i64 ((rd_T90 l2 a1).f2))) (ds := []) (M_ 0 10) (by kernel_rfl) rfl rfl ⟨(blk_cell nh.out 0).trans rfl, ((HB.out.cell (World.block_lt_of_cell? w _ hw578_0)).trans hw578_0), ((HB.out.cell (World.block_lt_of_cell? w _ hw578_1)).trans hw578_1), ((HB.out.cell (World.block_lt_of_cell? w _ hw578_2)).trans hw578_2), ((HB.out.cell (World.block_lt_of_cell? w _ hw579_0)).trans hw579_0), ((HB.out.cell (World.block_lt_of_cell? w _ hw579_1)).trans hw579_1), ((HB.out.cell (World.block_lt_of_cell? w _ hw579_2)).trans hw579_2)⟩ (fun hHeld => ?_); refine with_tabW impl_sheetOf_1.tab1 impl_sheetOf_1.bits1 (fun HT_ HW_ => ?_)
 generalize w.drew = w9 at nh HB ni nj nk nl nm nn hHeld ⊢
 refine pu_ 1 7 (N_ 10 2) ?_
 refine pu_ 5 11 (N_ 10 34) ?_
 refine tk7_ 0 6 (N_ 10 35) hHeld ?_
 refine pu_ 2 8 (N_ 10 39) ?_
 refine tk7_ 3 9 (N_ 10 47) hHeld ?_
 refine tk7_ 4 10 (M_ 6 4) hHeld ?_
 refine pu_ 6 12 (M_ 7 3) ?_
 refine tk7_ 7 13 (M_ 8 2) hHeld ?_
 refine one_ (i := 8) (N := some 14) (M_ 9 1) rfl rfl (one_of HT_.out (by kernel_rfl)) (by decide) (fun K hK => ?_)
 refine goes_ Try.func107 (by kernel_rfl) rfl #[.agg #[.int .i64 ((rd_T90 l2 a0).f0), .int .i64 ((rd_T90 l2 a0).f1), .int .i64 ((rd_T90 l2 a0).f2)], .agg #[.int .i64 ((rd_T90 l2 a1).f0), .int .i64 ((rd_T90 l2 a1).f1), .int .i64 ((rd_T90 l2 a1).f2)]] (by rfl) rfl rfl (Z107) ?_
 with_reducible refine (impl_holeLess.calls ((rd_T90 l2 a0).f0) ((rd_T90 l2 a0).f1) ((rd_T90 l2 a0).f2) ((rd_T90 l2 a1).f0) ((rd_T90 l2 a1).f1) ((rd_T90 l2 a1).f2) xV _ A8.out).mono ?_
 rintro e oB ⟨rfl, hb⟩
 refine ⟨_, rfl, ?_⟩
 have n0_ := Aside0.mk (Ye_ nh)
 have n1_ := Aside0.mk (below_step (Z240) hb)
 clear nh
 clear HB
 have nh := n0_
 have HB := n1_
 clear n0_ n1_
 (try clear hb)
 (try clear hb2)
 (try clear hk)
 (try clear hi)
 refine hK.out _ _ ⟨(blk_cell nh.out 0).trans rfl, ((HB.out.cell (World.block_lt_of_cell? w _ hw578_0)).trans hw578_0), ((HB.out.cell (World.block_lt_of_cell? w _ hw578_1)).trans hw578_1), ((HB.out.cell (World.block_lt_of_cell? w _ hw578_2)).trans hw578_2), ((HB.out.cell (World.block_lt_of_cell? w _ hw579_0)).trans hw579_0), ((HB.out.cell (World.block_lt_of_cell? w _ hw579_1)).trans hw579_1), ((HB.out.cell (World.block_lt_of_cell? w _ hw579_2)).trans hw579_2)⟩ (fun hHeld => ?_)
 clear hK K
 refine norm_ (a' := ?_) ?_ ?_
 rotate_left
 ·show Act.put _ (some 14) _ = _
  simp only [Act.put, List.setIfInBounds_toArray, List.set_cons_zero, List.set_cons_succ, i64_w, i32_w]
  rfl
 refine pu_ 9 5 (M_ 10 0) ?_
 refine done_ (done_of HT_.out (by kernel_rfl)) ?_
 try go_wp2
 go_ret
 exact ⟨Z11, Z240⟩

/-- A state of type 90 at block g of W; what its slices lead to came in by w0. -/
def IsS90 (w0 W : World) (g : Nat) (f0 : Int) (f1 : Int) (f2 : Int) : Prop := W.heap[g]? = some (.cells #[.int .i64 f0, .int .i64 f1, .int .i64 f2] 90 (0, 0)) ∧ w0.heap.size ≤ g
theorem IsS90.grown {w0 W : World} {g : Nat} {f0 : Int} {f1 : Int} {f2 : Int} {W1 : World} {row : Option Nat} (h : IsS90 w0 W g f0 f1 f2) (hw : W.grownBy W1 row) (hne : some g ≠ row) : IsS90 w0 W1 g f0 f1 f2 := by
 obtain ⟨hb, hg⟩ := h
 exact ⟨blk_grown hb hw hne, hg⟩
theorem IsS90.own_neN {w0 W : World} {g : Nat} {f0 : Int} {f1 : Int} {f2 : Int} {α : Type} {d : Kd α} {e : Nat} {base : Nat} {ok : Nat → Prop} {v : Value} {xs : List α} (h : IsS90 w0 W g f0 f1 f2) (ho : Kd.N d e W base ok v xs) (ht : e ≠ 90) : some g ≠ v.ownBlock := by
 obtain ⟨hb, hg⟩ := h
 exact Kd.N_ne ho hb ht
theorem IsS90.fresh {w0 W : World} {g : Nat} {f0 : Int} {f1 : Int} {f2 : Int} (h : IsS90 w0 W g f0 f1 f2) : ∀ k, W.heap.size ≤ k → k ≠ g := by
 obtain ⟨hb, hg⟩ := h
 exact Kd.freshB hb
theorem IsS90.kept {w0 W : World} {g : Nat} {f0 : Int} {f1 : Int} {f2 : Int} {W1 : World} {S : Nat → Prop} (h : IsS90 w0 W g f0 f1 f2) (hk : Kept W W1 S) (hne : ¬ S g) : IsS90 w0 W1 g f0 f1 f2 := by
 obtain ⟨hb, hg⟩ := h
 exact ⟨blk_kept hb hk hne, hg⟩
theorem IsS90.below {w0 W : World} {g : Nat} {f0 : Int} {f1 : Int} {f2 : Int} {W1 : World} (h : IsS90 w0 W g f0 f1 f2) (hw : Below W.heap.size W W1) : IsS90 w0 W1 g f0 f1 f2 := h.grown (grown_of_below hw none) (by simp)
theorem IsS90.alloc {w0 W : World} {g : Nat} {f0 : Int} {f1 : Int} {f2 : Int} (h : IsS90 w0 W g f0 f1 f2) (o : Obj) : IsS90 w0 (W.alloc o) g f0 f1 f2 := h.below (below_alloc (Below.refl _ _) o)
theorem IsS90.drewN {w0 W : World} {g : Nat} {f0 : Int} {f1 : Int} {f2 : Int} (h : IsS90 w0 W g f0 f1 f2) (m : Nat) : IsS90 w0 (W.drewN m) g f0 f1 f2 := h
theorem IsS90.drew {w0 W : World} {g : Nat} {f0 : Int} {f1 : Int} {f2 : Int} (h : IsS90 w0 W g f0 f1 f2) : IsS90 w0 W.drew g f0 f1 f2 := h
theorem IsS90.at_ {w0 W : World} {g : Nat} {f0 : Int} {f1 : Int} {f2 : Int} {w' : World} {m : Nat} (hq : W.drewN m = w') (h : IsS90 w0 W g f0 f1 f2) : IsS90 w0 w' g f0 f1 f2 := by subst hq; exact IsS90.drewN h m
theorem IsS90.apart {w0 W : World} {g : Nat} {f0 : Int} {f1 : Int} {f2 : Int} {α : Type} {d : Kd α} {e : Nat} {base : Nat} {ok : Nat → Prop} {v : Value} {xs : List α} (h : IsS90 w0 W g f0 f1 f2) (ho : d.R e W base ok v xs) (ht : ∀ q, q ∈ e :: d.E → q ≠ 90) : d.R e W base (fun k => ok k ∧ k ≠ g) v xs := by
 obtain ⟨hb, hg⟩ := h
 exact Kd.R_types ho hb ht
theorem IsS90.own_ne {w0 W : World} {g : Nat} {f0 : Int} {f1 : Int} {f2 : Int} {α : Type} {d : Kd α} {e : Nat} {base : Nat} {ok : Nat → Prop} {v : Value} {xs : List α} (h : IsS90 w0 W g f0 f1 f2) (ho : d.R e W base ok v xs) (ht : e ≠ 90) : some g ≠ v.ownBlock := by
 obtain ⟨hb, hg⟩ := h
 exact Kd.R_ne ho hb ht
theorem IsS90.apartQ {w0 W : World} {g : Nat} {f0 : Int} {f1 : Int} {f2 : Int} {α : Type} {d : Kd α} {e : Nat} {base : Nat} {ok : Nat → Prop} {v : Value} {xs : List α} (h : IsS90 w0 W g f0 f1 f2) (ho : d.Q e W base ok v xs) (ht : ∀ q, q ∈ e :: d.E → q ≠ 90) : d.Q e W base (fun k => ok k ∧ k ≠ g) v xs := by
 obtain ⟨hb, hg⟩ := h
 exact Kd.Q_types ho hb ht
theorem IsS90.own_neQ {w0 W : World} {g : Nat} {f0 : Int} {f1 : Int} {f2 : Int} {α : Type} {d : Kd α} {e : Nat} {base : Nat} {ok : Nat → Prop} {v : Value} {xs : List α} (h : IsS90 w0 W g f0 f1 f2) (ho : d.Q e W base ok v xs) (ht : e ≠ 90) : some g ≠ v.ownBlock := by
 obtain ⟨hb, hg⟩ := h
 exact Kd.Q_ne ho hb ht
theorem IsS90.apartS {w0 W : World} {g : Nat} {f0 : Int} {f1 : Int} {f2 : Int} {α : Type} {d : Kd α} {e : Nat} {base : Nat} {ok : Nat → Prop} {v : Value} {xs : List α} (h : IsS90 w0 W g f0 f1 f2) (ho : d.S e W base ok v xs) (ht : ∀ q, q ∈ e :: d.E → q ≠ 90) : d.S e W base (fun k => ok k ∧ k ≠ g) v xs := by
 obtain ⟨hb, hg⟩ := h
 exact Kd.S_types ho hb ht
theorem IsS90.own_neS {w0 W : World} {g : Nat} {f0 : Int} {f1 : Int} {f2 : Int} {α : Type} {d : Kd α} {e : Nat} {base : Nat} {ok : Nat → Prop} {v : Value} {xs : List α} (h : IsS90 w0 W g f0 f1 f2) (ho : d.S e W base ok v xs) (ht : e ≠ 90) : some g ≠ v.ownBlock := by
 obtain ⟨hb, hg⟩ := h
 exact Kd.S_ne ho hb ht
theorem IsS90.lt {w0 W : World} {g : Nat} {f0 : Int} {f1 : Int} {f2 : Int} (h : IsS90 w0 W g f0 f1 f2) : g < W.heap.size := by
 obtain ⟨hb, hg⟩ := h
 exact blk_lt hb
theorem IsS90.ge {w0 W : World} {g : Nat} {f0 : Int} {f1 : Int} {f2 : Int} (h : IsS90 w0 W g f0 f1 f2) : w0.heap.size ≤ g := by
 obtain ⟨hb, hg⟩ := h
 exact hg
theorem IsS90.ne_blk {w0 W : World} {g : Nat} {f0 : Int} {f1 : Int} {f2 : Int} {a : Nat} {cs : Array Value} {t : TypeId} {fr : Nat × Nat} (h : IsS90 w0 W g f0 f1 f2) (hb2 : W.heap[a]? = some (.cells cs t fr)) (ht : t ≠ 90) : g ≠ a := by
 obtain ⟨hb, hg⟩ := h
 rintro rfl
 rw [hb] at hb2
 injection hb2 with hb2
 injection hb2 with _ ht2
 exact ht ht2.symm
theorem IsS90.far {w0 W : World} {g : Nat} {f0 : Int} {f1 : Int} {f2 : Int} {p : Addr} (h : IsS90 w0 W g f0 f1 f2) (hne : g ≠ p.block) (u : Value) : IsS90 w0 (W.setCell p u) g f0 f1 f2 := by
 obtain ⟨hb, hg⟩ := h
 exact ⟨blk_far hb hne u, hg⟩
theorem cellS90_0 {W : World} {g : Nat} {f0 : Int} {f1 : Int} {f2 : Int} (h : W.heap[g]? = some (.cells #[.int .i64 f0, .int .i64 f1, .int .i64 f2] 90 (0, 0))) : W.cell? ⟨g, 0, none⟩ = some (.int .i64 f0) := (blk_cell h 0).trans rfl
theorem IsS90.set_0 {w0 W : World} {g : Nat} {f0 : Int} {f1 : Int} {f2 : Int} (h : IsS90 w0 W g f0 f1 f2) (x : Int) : IsS90 w0 (W.setCell ⟨g, 0, none⟩ (.int .i64 x)) g x f1 f2 := by
 obtain ⟨hb, hg⟩ := h
 exact ⟨by simpa using blk_set hb 0 (.int .i64 x), hg⟩
theorem cellS90_1 {W : World} {g : Nat} {f0 : Int} {f1 : Int} {f2 : Int} (h : W.heap[g]? = some (.cells #[.int .i64 f0, .int .i64 f1, .int .i64 f2] 90 (0, 0))) : W.cell? ⟨g, 1, none⟩ = some (.int .i64 f1) := (blk_cell h 1).trans rfl
theorem IsS90.set_1 {w0 W : World} {g : Nat} {f0 : Int} {f1 : Int} {f2 : Int} (h : IsS90 w0 W g f0 f1 f2) (x : Int) : IsS90 w0 (W.setCell ⟨g, 1, none⟩ (.int .i64 x)) g f0 x f2 := by
 obtain ⟨hb, hg⟩ := h
 exact ⟨by simpa using blk_set hb 1 (.int .i64 x), hg⟩
theorem cellS90_2 {W : World} {g : Nat} {f0 : Int} {f1 : Int} {f2 : Int} (h : W.heap[g]? = some (.cells #[.int .i64 f0, .int .i64 f1, .int .i64 f2] 90 (0, 0))) : W.cell? ⟨g, 2, none⟩ = some (.int .i64 f2) := (blk_cell h 2).trans rfl
theorem IsS90.set_2 {w0 W : World} {g : Nat} {f0 : Int} {f1 : Int} {f2 : Int} (h : IsS90 w0 W g f0 f1 f2) (x : Int) : IsS90 w0 (W.setCell ⟨g, 2, none⟩ (.int .i64 x)) g f0 f1 x := by
 obtain ⟨hb, hg⟩ := h
 exact ⟨by simpa using blk_set hb 2 (.int .i64 x), hg⟩
theorem IsS90.new (w0 W : World) (f0 : Int) (f1 : Int) (f2 : Int) (hB : Below w0.heap.size w0 W) : IsS90 w0 (W.alloc (.cells #[.int .i64 f0, .int .i64 f1, .int .i64 f2] 90)) W.heap.size f0 f1 f2 := ⟨by simpa using heap_alloc_new W _, hB.size⟩
/-! ### impl_sheetOf: function 101: by this session -/
instance impl_sheetOf_inh : Inhabited S90 := ⟨z90⟩
def impl_holeLt (a b : S90) : Bool := decide (a.f1 < b.f1 ∨ (a.f1 = b.f1 ∧ a.f0 < b.f0))
theorem impl_holeLt.swo : Go.Sort.SWO impl_holeLt := by
 constructor
 ·intro x; unfold impl_holeLt; exact decide_eq_false (by omega)
 ·intro x y z h1 h2; unfold impl_holeLt at *; have := of_decide_eq_true h1; have := of_decide_eq_true h2; exact decide_eq_true (by omega)
 intro x y z h1 h2; unfold impl_holeLt at *; have := of_decide_eq_false h1; have := of_decide_eq_false h2; exact decide_eq_false (by omega)
/-- The row in order, where two that come before neither of them are the same. -/
def impl_sortHoles.f (l : List S90) : Option (List S90) := if l.length ≤ 8796093022208 ∧ ∀ a ∈ l, ∀ b ∈ l, impl_holeLt a b = false → impl_holeLt b a = false → a.f0 = b.f0 ∧ a.f1 = b.f1 ∧ a.f2 = b.f2 then some (l.mergeSort (fun a b => !impl_holeLt b a)) else none
theorem impl_sortHoles.uniq {l r ys : List S90} (h : impl_sortHoles.f l = some r) (hp : ys.Perm l) (hs : ys.Pairwise (fun a b => impl_holeLt b a = false)) : ys = r := by
 unfold impl_sortHoles.f at h
 split at h
 ·rename_i hc
  obtain rfl := Option.some.inj h
  have hO := impl_holeLt.swo
  have hm := List.mergeSort_perm l (fun a b => !impl_holeLt b a)
  have hq : (l.mergeSort (fun a b => !impl_holeLt b a)).Pairwise (fun a b => impl_holeLt b a = false) := by
   have := List.pairwise_mergeSort (le := fun a b => !impl_holeLt b a) (by
    intro a b c h1 h2
    simp only [Bool.not_eq_true'] at *
    exact hO.ntrans c b a h2 h1) (by
    intro a b
    simp only [Bool.or_eq_true, Bool.not_eq_true']
    by_cases h : impl_holeLt b a = true
    ·right
     cases h2 : impl_holeLt a b with
     | false => rfl
     | true => have := hO.trans a b a h2 h; rw [hO.irrefl] at this; cases this
    left; exact Bool.eq_false_iff.2 h) l
   exact this.imp (fun h => by simpa using h)
  refine order_unique (fun a b => impl_holeLt b a = false) ys _ (hp.trans hm.symm) hs hq (fun a ha b hb h1 h2 => ?_)
  have := hc.2 a (hp.mem_iff.1 ha) b (hp.mem_iff.1 hb) h2 h1
  obtain ⟨a0, a1, a2⟩ := a
  obtain ⟨b0, b1, b2⟩ := b
  simp only at this
  obtain ⟨rfl, rfl, rfl⟩ := this
  rfl
 cases h
theorem impl_sortHoles.short {l r : List S90} (h : impl_sortHoles.f l = some r) : l.length < 1152921504606846976 := by
 unfold impl_sortHoles.f at h
 split at h
 ·omega
 cases h
theorem impl_sheetOf_1.lt (i j : Nat) (l : List S90) (hi : i < l.length) (hj : j < l.length) : impl_sheetOf_1.f i j l = some (impl_holeLt l[i]! l[j]!) := by
 have e1 : rd_T90 l (i : Int) = l[i]! := by unfold rd_T90; rw [Int.toNat_natCast, List.getD_eq_getElem?_getD, List.getElem?_eq_getElem hi, getElem!_pos l i hi]; rfl
 have e2 : rd_T90 l (j : Int) = l[j]! := by unfold rd_T90; rw [Int.toNat_natCast, List.getD_eq_getElem?_getD, List.getElem?_eq_getElem hj, getElem!_pos l j hj]; rfl
 unfold impl_sheetOf_1.f
 rw [if_pos (by omega), if_pos (by omega), if_pos (by omega), if_pos (by omega), e1, e2]
 unfold impl_holeLess.f impl_holeLt
 split
 ·simp only [Option.bind_some, Option.some.injEq, decide_eq_decide]; omega
 simp only [Option.bind_some, Option.some.injEq, decide_eq_decide]; omega
noncomputable def impl_sheetOf.ie : TypeInfo := (Try.prog.info? 90).get (by kernel_rfl)
noncomputable def impl_sheetOf.it : TypeInfo := (Try.prog.info? 42).get (by kernel_rfl)
set_option maxHeartbeats 2000000 in
/-- sort.SliceStable with this closure, at a row of the call's own that a boxed variable holds. -/
theorem impl_sheetOf.sorts (xs zs : List S90) (A : Option Addr) (c : Nat) (gb base : Nat) (W : World) (hz : impl_sortHoles.f xs = some zs) (hR : Kd.R k90 90 W base (fun k_ => k_ ≠ gb) (.slice A xs.length c) xs)
  (hbx : W.heap[gb]? = some (.cells #[.slice A xs.length c] 42 (0, 0))) :
  Calls Try.prog 99 #[.iface 42 (.slice A xs.length c), .func (.func 123) #[] #[.pointer (some ⟨gb, 0, none⟩)]] W fun e' w' => e' = .returned (.tuple #[]) ∧
   xs.length = zs.length ∧ Kd.R k90 90 w' base (fun k_ => k_ ≠ gb) (.slice A zs.length c) zs ∧ w'.heap[gb]? = some (.cells #[.slice A zs.length c] 42 (0, 0)) ∧ W.grownBy w' (Value.ownBlock (.slice A xs.length c)) := by
 have hgb : gb < W.heap.size := (Array.getElem?_eq_some_iff.1 hbx).1
 have hne : some gb ≠ Value.ownBlock (.slice A xs.length c) := fun e => hR.1 gb e.symm rfl
 have hK : ∀ n, Lib.swapperK n impl_sheetOf.ie 25 = if n = 0 then 1 else if n = 1 then 2 else 9 := by
  intro n
  have a : impl_sheetOf.ie.hasPointers = false := by kernel_rfl
  have b : impl_sheetOf.ie.bytes = 24 := by kernel_rfl
  rcases Nat.lt_or_ge n 2 with h | h
  ·rcases Nat.eq_zero_or_pos n with h0 | h0
   ·subst h0; simp [Lib.swapperK]
   obtain rfl : n = 1 := by omega
   simp [Lib.swapperK]
  have c : (n == 0) = false := by simp; omega
  have d : (n == 1) = false := by simp; omega
  rw [if_neg (by omega), if_neg (by omega)]
  simp [Lib.swapperK, a, b, c, d]
 have hf : ∀ n, Try.prog.funcs.findIdx? (·.name == "internal/reflectlite" ++ ".Swapper$" ++ toString (Lib.swapperK n impl_sheetOf.ie 25)) = some (if n = 0 then 129 else if n = 1 then 130 else 137) := by
  intro n
  rw [hK]
  by_cases h0 : n = 0
  ·rw [if_pos h0, if_pos h0]; kernel_rfl
  rw [if_neg h0, if_neg h0]
  by_cases h1 : n = 1
  ·rw [if_pos h1, if_pos h1]; kernel_rfl
  rw [if_neg h1, if_neg h1]; kernel_rfl
 refine (sort_rows Try.laysGt8 42 90 impl_sheetOf.it impl_sheetOf.ie (by kernel_rfl) (by kernel_rfl) (by kernel_rfl) (by kernel_rfl) 25 (fun _ => by kernel_rfl) k90 (fun x => [.int .i64 x.f0, .int .i64 x.f1, .int .i64 x.f2]) (fun w base ok x cs => by show k90.M w base ok x cs ↔ _; exact ⟨k90_openM, fun h => h ▸ k90_mkM _ _ _ _⟩) (fun _ => rfl) (by kernel_rfl) (fun _ => by kernel_rfl) impl_holeLt impl_holeLt.swo 123 #[.pointer (some ⟨gb, 0, none⟩)]
  (enters_of Try.func123 (by kernel_rfl) rfl) false _ hf (fun n h2 args W => by
   rw [if_neg (by omega), if_neg (by omega)]
   exact run_callFunc_extern Try.func137 (by kernel_rfl) (by kernel_rfl) (by kernel_rfl) (e := Extern.ReflectliteSwapper.swap false) (by kernel_rfl) args W) A c xs base (fun k_ => k_ ≠ gb) W (impl_sortHoles.short hz) hR ?_).mono ?_
 ·intro W' ys hl hC hg i j hi hj
  have hb' : W'.heap[gb]? = some (.cells #[.slice A ys.length c] 42 (0, 0)) := by rw [hg.block gb hgb hne, hbx, hl]
  have hc : xs.length ≤ c := (Kd.R_reads' hR).2.1
  have := impl_sheetOf_1.calls i j gb A c ys (impl_holeLt ys[i]! ys[j]!) W' (by rw [hl]; exact hC) (by omega) hb' (impl_sheetOf_1.lt i j ys (by omega) (by omega))
  exact this.mono fun e w h => ⟨h.1, h.2⟩
 rintro e' w' ⟨he, ys, hp, hs, ho, hg⟩
 obtain rfl := impl_sortHoles.uniq hz hp hs
 have hl := hp.length_eq
 rw [← hl] at ho
 exact ⟨he, hl.symm, ho, by rw [hg.block gb hgb hne, hbx, hl], hg⟩
def impl_sheetOf.f (k : Nat) (l0 : List (S90)) : Option ((List (S90)) × Bool) := if (l0.length : Int) > 60 then (some (([] : List (S90)), false)) else ((slices_Clone_Hole.f l0).bind fun l5 => ((impl_sortHoles.f l5).bind fun i5 => ((impl_IsSheet.f k i5).bind fun pE => (if pE = true then (some (i5, true)) else (some (([] : List (S90)), false))))))
theorem impl_sheetOf.mono : ∀ a0 k, LeO (impl_sheetOf.f k a0) (impl_sheetOf.f (k + 1) a0) := by
 intro a0 k
 unfold impl_sheetOf.f
 exact mo13_
set_option maxHeartbeats 8000000 in
set_option maxRecDepth 100000 in
theorem impl_sheetOf.calls (k : Nat) (A0 : Option Addr) (c0 : Nat) (l0 : List (S90)) (r1 : List (S90)) (r2 : Bool) (w : World) (hr0 : Kd.C k90 w A0 l0.length l0) (hc0 : l0.length ≤ c0) (h : impl_sheetOf.f k l0 = some (r1, r2)) :
  Calls Try.prog 101 #[.slice A0 l0.length c0] w fun e w' => ∃ v0_ : Value, e = .returned (.tuple #[v0_, .bool r2]) ∧ Kd.R k90 90 w' w.heap.size (fun _ => True) v0_ r1 ∧ Below w.heap.size w w' := by
 have HR0 := Aside0.mk hr0
 have HC0 := Aside0.mk hc0
 clear hr0 hc0
 have HB := Aside0.mk (Below.refl w.heap.size w)
 have H : (if (l0.length : Int) > 60 then (some (([] : List (S90)), false)) else ((slices_Clone_Hole.f l0).bind fun l5 => ((impl_sortHoles.f l5).bind fun i5 => ((impl_IsSheet.f k i5).bind fun pE => (if pE = true then (some (i5, true)) else (some (([] : List (S90)), false))))))) = some (r1, r2) := h
 clear h
 by_cases c2 : (l0.length : Int) > 60
 ·rw [if_pos c2] at H
  have hP : decide (60 < (l0.length : Int)) = true := decide_eq_true c2
  have Cc : decide (60 < l0.length) = true := decide_eq_true (by omega)
  clear c2
  simp only [Option.some.injEq, Prod.mk.injEq] at H
  obtain ⟨rfl, rfl⟩ := H
  go_enter Try.func101, Try.ntmps101
  go_wp2
  go_ret2
  exact ⟨_, Z11, Z44, Z5⟩
 rw [if_neg c2] at H
 have hP : decide (60 < (l0.length : Int)) = false := decide_eq_false c2
 have Cc : decide (60 < l0.length) = false := decide_eq_false (by omega)
 clear c2
 obtain ⟨l5, A3, H⟩ := bd_ H
 (try dsimp only at H)
 obtain ⟨i5, A4, H⟩ := bd_ H
 (try dsimp only at H)
 obtain ⟨pE, A5, H⟩ := bd_ H
 (try dsimp only at H)
 by_cases c6 : pE = true
 ·subst c6
  rw [if_pos rfl] at H
  simp only [Option.some.injEq, Prod.mk.injEq] at H
  obtain ⟨rfl, rfl⟩ := H
  go_enter Try.func101, Try.ntmps101
  go_wp2_with (first | ((with_reducible refine gate_callee (f := 97) rfl ?_); refine gl_ 9 Try.func97 #[.slice A0 l0.length c0] ?_; (with_reducible refine (slices_Clone_Hole.calls _ _ l0 l5 _ ?_ ?_ A3.out).mono ?_); exact Z118; exact HC0.out; rintro e w7 ⟨v232, rfl, ho0, hb⟩; refine ⟨_, rfl, ?_⟩; refine k2_ (Kd.R_lower ho0 (below_size (Z5))) (below_step (Z5) hb) ?_; clear HB; intro hX HB; (try clear hb ho0); obtain ⟨mO, mM, zr⟩ := Kd.R_slice hX.out; subst zr) | ((with_reducible refine gate_dst (N := 4) rfl ?_); refine bv_ 4 42 #[.slice none 0 0] ?_; intro gbS hg wS hbox hb; refine k4_ (Kd.R_mono (Kd.R_below (Kd.R_elderB (Z2 hX) gbS (Nat.le_of_eq hg.symm)) hb) (ok' := fun k_ => k_ ≠ gbS) (fun _ hk => hk.2)) (below_step (Z5) hb) hbox ((Z38 : w.heap.size ≤ gbS)) ?_; clear hX HB; intro hX HB BKS GES; clear hb hbox hg; have hcS : wS.cell? ⟨gbS, 0, none⟩ = some (.slice none 0 0) := (blk_cell BKS.out 0).trans rfl; have hfS := blk_frozen BKS.out 0) | ((with_reducible refine gate_callee (f := 99) rfl ?_); refine goesL_ (some 13) rfl rfl Try.func99 (by kernel_rfl) rfl #[.iface 42 (.slice mO l5.length mM), .func (.func 123) #[] #[.pointer (some ⟨gbS, 0, none⟩)]] rfl (by (try simp only [List.map_toArray, List.map_cons, List.map_nil]); first | done | rfl) ?_; refine (impl_sheetOf.sorts l5 i5 mO mM gbS w.heap.size (wS.setCell ⟨gbS, 0, none⟩ (.slice mO l5.length mM)) A4.out (Kd.R_far (p := ⟨gbS, 0, none⟩) hX.out (fun _ hk => hk) (.slice mO l5.length mM)) (blk_put (cs := #[.slice none 0 0]) BKS.out 0 (.slice mO l5.length mM) rfl)).mono ?_; rintro e wT ⟨rfl, hln, ho, hbx, hg⟩; refine ⟨_, rfl, ?_⟩; have n1_ := Aside0.mk ((below_set HB.out GES.out).grown hg (Z236) (fun k_ hk_ => Kd.R_base hX.out k_ hk_)); clear hX HB BKS hcS hfS hg; have jQ := Aside0.mk ho; have HB := n1_; have BKS := Aside0.mk hbx; clear ho hbx n1_; have hcS : wT.cell? ⟨gbS, 0, none⟩ = some (.slice mO i5.length mM) := (blk_cell BKS.out 0).trans rfl; rw [hln]) | ((with_reducible refine gate_callee (f := 82) rfl ?_); refine gl_ 15 Try.func82 #[.slice mO i5.length mM] ?_; (with_reducible refine (impl_IsSheet.calls k _ _ i5 true _ ?_ ?_ A5.out).mono ?_); exact (Z7 jQ); exact (Kd.R_reads' jQ.out).2.1; rintro e mN ⟨rfl, hb⟩; refine ⟨_, rfl, ?_⟩; have n0_ := Aside0.mk (blk_below (g := gbS) BKS.out hb); have n1_ := Aside0.mk (Ya_ jQ); have n2_ := Aside0.mk (below_step (Z5) hb); clear jQ; clear HB; clear BKS hcS; have BKS := n0_; have hcS : mN.cell? ⟨gbS, 0, none⟩ = some (.slice mO i5.length mM) := (blk_cell BKS.out 0).trans rfl; have jQ := n1_; have HB := n2_; clear n0_ n1_ n2_; (try clear hb)))
  go_ret2
  exact ⟨_, Z11, Z47 jQ, Z5⟩
 replace c6 := Bool.eq_false_iff.mpr c6
 subst c6
 rw [if_neg (show ¬ (false = true) by decide)] at H
 simp only [Option.some.injEq, Prod.mk.injEq] at H
 obtain ⟨rfl, rfl⟩ := H
 go_enter Try.func101, Try.ntmps101
 go_wp2_with (first | ((with_reducible refine gate_callee (f := 97) rfl ?_); refine gl_ 9 Try.func97 #[.slice A0 l0.length c0] ?_; (with_reducible refine (slices_Clone_Hole.calls _ _ l0 l5 _ ?_ ?_ A3.out).mono ?_); exact Z118; exact HC0.out; rintro e yI ⟨v232, rfl, ho0, hb⟩; refine ⟨_, rfl, ?_⟩; refine k2_ (Kd.R_lower ho0 (below_size (Z5))) (below_step (Z5) hb) ?_; clear HB; intro hX HB; (try clear hb ho0); obtain ⟨mZ, m0, pp⟩ := Kd.R_slice hX.out; subst pp) | ((with_reducible refine gate_dst (N := 4) rfl ?_); refine bv_ 4 42 #[.slice none 0 0] ?_; intro gbS hg wS hbox hb; refine k4_ (Kd.R_mono (Kd.R_below (Kd.R_elderB (Z2 hX) gbS (Nat.le_of_eq hg.symm)) hb) (ok' := fun k_ => k_ ≠ gbS) (fun _ hk => hk.2)) (below_step (Z5) hb) hbox ((Z38 : w.heap.size ≤ gbS)) ?_; clear hX HB; intro hX HB BKS GES; clear hb hbox hg; have hcS : wS.cell? ⟨gbS, 0, none⟩ = some (.slice none 0 0) := (blk_cell BKS.out 0).trans rfl; have hfS := blk_frozen BKS.out 0) | ((with_reducible refine gate_callee (f := 99) rfl ?_); refine goesL_ (some 13) rfl rfl Try.func99 (by kernel_rfl) rfl #[.iface 42 (.slice mZ l5.length m0), .func (.func 123) #[] #[.pointer (some ⟨gbS, 0, none⟩)]] rfl (by (try simp only [List.map_toArray, List.map_cons, List.map_nil]); first | done | rfl) ?_; refine (impl_sheetOf.sorts l5 i5 mZ m0 gbS w.heap.size (wS.setCell ⟨gbS, 0, none⟩ (.slice mZ l5.length m0)) A4.out (Kd.R_far (p := ⟨gbS, 0, none⟩) hX.out (fun _ hk => hk) (.slice mZ l5.length m0)) (blk_put (cs := #[.slice none 0 0]) BKS.out 0 (.slice mZ l5.length m0) rfl)).mono ?_; rintro e wT ⟨rfl, hln, ho, hbx, hg⟩; refine ⟨_, rfl, ?_⟩; have n1_ := Aside0.mk ((below_set HB.out GES.out).grown hg (Z236) (fun k_ hk_ => Kd.R_base hX.out k_ hk_)); clear hX HB BKS hcS hfS hg; have jQ := Aside0.mk ho; have HB := n1_; have BKS := Aside0.mk hbx; clear ho hbx n1_; have hcS : wT.cell? ⟨gbS, 0, none⟩ = some (.slice mZ i5.length m0) := (blk_cell BKS.out 0).trans rfl; rw [hln]) | ((with_reducible refine gate_callee (f := 82) rfl ?_); refine gl_ 15 Try.func82 #[.slice mZ i5.length m0] ?_; (with_reducible refine (impl_IsSheet.calls k _ _ i5 false _ ?_ ?_ A5.out).mono ?_); exact (Z7 jQ); exact (Kd.R_reads' jQ.out).2.1; rintro e mT ⟨rfl, hb⟩; refine ⟨_, rfl, ?_⟩; have n0_ := Aside0.mk (blk_below (g := gbS) BKS.out hb); have n1_ := Aside0.mk (Ya_ jQ); have n2_ := Aside0.mk (below_step (Z5) hb); clear jQ; clear HB; clear BKS hcS; have BKS := n0_; have hcS : mT.cell? ⟨gbS, 0, none⟩ = some (.slice mZ i5.length m0) := (blk_cell BKS.out 0).trans rfl; have jQ := n1_; have HB := n2_; clear n0_ n1_ n2_; (try clear hb)))
 go_ret2
 exact ⟨_, Z11, Z44, Z5⟩

/-- A state of type 103 at block g of W; what its slices lead to came in by w0. -/
def IsS103 (w0 W : World) (g : Nat) (f0 : Int) (f1 : Int) : Prop := W.heap[g]? = some (.cells #[.int .i64 f0, .int .i64 f1] 103 (0, 0)) ∧ w0.heap.size ≤ g
theorem IsS103.grown {w0 W : World} {g : Nat} {f0 : Int} {f1 : Int} {W1 : World} {row : Option Nat} (h : IsS103 w0 W g f0 f1) (hw : W.grownBy W1 row) (hne : some g ≠ row) : IsS103 w0 W1 g f0 f1 := by
 obtain ⟨hb, hg⟩ := h
 exact ⟨blk_grown hb hw hne, hg⟩
theorem IsS103.own_neN {w0 W : World} {g : Nat} {f0 : Int} {f1 : Int} {α : Type} {d : Kd α} {e : Nat} {base : Nat} {ok : Nat → Prop} {v : Value} {xs : List α} (h : IsS103 w0 W g f0 f1) (ho : Kd.N d e W base ok v xs) (ht : e ≠ 103) : some g ≠ v.ownBlock := by
 obtain ⟨hb, hg⟩ := h
 exact Kd.N_ne ho hb ht
theorem IsS103.fresh {w0 W : World} {g : Nat} {f0 : Int} {f1 : Int} (h : IsS103 w0 W g f0 f1) : ∀ k, W.heap.size ≤ k → k ≠ g := by
 obtain ⟨hb, hg⟩ := h
 exact Kd.freshB hb
theorem IsS103.kept {w0 W : World} {g : Nat} {f0 : Int} {f1 : Int} {W1 : World} {S : Nat → Prop} (h : IsS103 w0 W g f0 f1) (hk : Kept W W1 S) (hne : ¬ S g) : IsS103 w0 W1 g f0 f1 := by
 obtain ⟨hb, hg⟩ := h
 exact ⟨blk_kept hb hk hne, hg⟩
theorem IsS103.below {w0 W : World} {g : Nat} {f0 : Int} {f1 : Int} {W1 : World} (h : IsS103 w0 W g f0 f1) (hw : Below W.heap.size W W1) : IsS103 w0 W1 g f0 f1 := h.grown (grown_of_below hw none) (by simp)
theorem IsS103.alloc {w0 W : World} {g : Nat} {f0 : Int} {f1 : Int} (h : IsS103 w0 W g f0 f1) (o : Obj) : IsS103 w0 (W.alloc o) g f0 f1 := h.below (below_alloc (Below.refl _ _) o)
theorem IsS103.drewN {w0 W : World} {g : Nat} {f0 : Int} {f1 : Int} (h : IsS103 w0 W g f0 f1) (m : Nat) : IsS103 w0 (W.drewN m) g f0 f1 := h
theorem IsS103.drew {w0 W : World} {g : Nat} {f0 : Int} {f1 : Int} (h : IsS103 w0 W g f0 f1) : IsS103 w0 W.drew g f0 f1 := h
theorem IsS103.at_ {w0 W : World} {g : Nat} {f0 : Int} {f1 : Int} {w' : World} {m : Nat} (hq : W.drewN m = w') (h : IsS103 w0 W g f0 f1) : IsS103 w0 w' g f0 f1 := by subst hq; exact IsS103.drewN h m
theorem IsS103.apart {w0 W : World} {g : Nat} {f0 : Int} {f1 : Int} {α : Type} {d : Kd α} {e : Nat} {base : Nat} {ok : Nat → Prop} {v : Value} {xs : List α} (h : IsS103 w0 W g f0 f1) (ho : d.R e W base ok v xs) (ht : ∀ q, q ∈ e :: d.E → q ≠ 103) : d.R e W base (fun k => ok k ∧ k ≠ g) v xs := by
 obtain ⟨hb, hg⟩ := h
 exact Kd.R_types ho hb ht
theorem IsS103.own_ne {w0 W : World} {g : Nat} {f0 : Int} {f1 : Int} {α : Type} {d : Kd α} {e : Nat} {base : Nat} {ok : Nat → Prop} {v : Value} {xs : List α} (h : IsS103 w0 W g f0 f1) (ho : d.R e W base ok v xs) (ht : e ≠ 103) : some g ≠ v.ownBlock := by
 obtain ⟨hb, hg⟩ := h
 exact Kd.R_ne ho hb ht
theorem IsS103.apartQ {w0 W : World} {g : Nat} {f0 : Int} {f1 : Int} {α : Type} {d : Kd α} {e : Nat} {base : Nat} {ok : Nat → Prop} {v : Value} {xs : List α} (h : IsS103 w0 W g f0 f1) (ho : d.Q e W base ok v xs) (ht : ∀ q, q ∈ e :: d.E → q ≠ 103) : d.Q e W base (fun k => ok k ∧ k ≠ g) v xs := by
 obtain ⟨hb, hg⟩ := h
 exact Kd.Q_types ho hb ht
theorem IsS103.own_neQ {w0 W : World} {g : Nat} {f0 : Int} {f1 : Int} {α : Type} {d : Kd α} {e : Nat} {base : Nat} {ok : Nat → Prop} {v : Value} {xs : List α} (h : IsS103 w0 W g f0 f1) (ho : d.Q e W base ok v xs) (ht : e ≠ 103) : some g ≠ v.ownBlock := by
 obtain ⟨hb, hg⟩ := h
 exact Kd.Q_ne ho hb ht
theorem IsS103.apartS {w0 W : World} {g : Nat} {f0 : Int} {f1 : Int} {α : Type} {d : Kd α} {e : Nat} {base : Nat} {ok : Nat → Prop} {v : Value} {xs : List α} (h : IsS103 w0 W g f0 f1) (ho : d.S e W base ok v xs) (ht : ∀ q, q ∈ e :: d.E → q ≠ 103) : d.S e W base (fun k => ok k ∧ k ≠ g) v xs := by
 obtain ⟨hb, hg⟩ := h
 exact Kd.S_types ho hb ht
theorem IsS103.own_neS {w0 W : World} {g : Nat} {f0 : Int} {f1 : Int} {α : Type} {d : Kd α} {e : Nat} {base : Nat} {ok : Nat → Prop} {v : Value} {xs : List α} (h : IsS103 w0 W g f0 f1) (ho : d.S e W base ok v xs) (ht : e ≠ 103) : some g ≠ v.ownBlock := by
 obtain ⟨hb, hg⟩ := h
 exact Kd.S_ne ho hb ht
theorem IsS103.lt {w0 W : World} {g : Nat} {f0 : Int} {f1 : Int} (h : IsS103 w0 W g f0 f1) : g < W.heap.size := by
 obtain ⟨hb, hg⟩ := h
 exact blk_lt hb
theorem IsS103.ge {w0 W : World} {g : Nat} {f0 : Int} {f1 : Int} (h : IsS103 w0 W g f0 f1) : w0.heap.size ≤ g := by
 obtain ⟨hb, hg⟩ := h
 exact hg
theorem IsS103.ne_blk {w0 W : World} {g : Nat} {f0 : Int} {f1 : Int} {a : Nat} {cs : Array Value} {t : TypeId} {fr : Nat × Nat} (h : IsS103 w0 W g f0 f1) (hb2 : W.heap[a]? = some (.cells cs t fr)) (ht : t ≠ 103) : g ≠ a := by
 obtain ⟨hb, hg⟩ := h
 rintro rfl
 rw [hb] at hb2
 injection hb2 with hb2
 injection hb2 with _ ht2
 exact ht ht2.symm
theorem IsS103.far {w0 W : World} {g : Nat} {f0 : Int} {f1 : Int} {p : Addr} (h : IsS103 w0 W g f0 f1) (hne : g ≠ p.block) (u : Value) : IsS103 w0 (W.setCell p u) g f0 f1 := by
 obtain ⟨hb, hg⟩ := h
 exact ⟨blk_far hb hne u, hg⟩
theorem cellS103_0 {W : World} {g : Nat} {f0 : Int} {f1 : Int} (h : W.heap[g]? = some (.cells #[.int .i64 f0, .int .i64 f1] 103 (0, 0))) : W.cell? ⟨g, 0, none⟩ = some (.int .i64 f0) := (blk_cell h 0).trans rfl
theorem IsS103.set_0 {w0 W : World} {g : Nat} {f0 : Int} {f1 : Int} (h : IsS103 w0 W g f0 f1) (x : Int) : IsS103 w0 (W.setCell ⟨g, 0, none⟩ (.int .i64 x)) g x f1 := by
 obtain ⟨hb, hg⟩ := h
 exact ⟨by simpa using blk_set hb 0 (.int .i64 x), hg⟩
theorem cellS103_1 {W : World} {g : Nat} {f0 : Int} {f1 : Int} (h : W.heap[g]? = some (.cells #[.int .i64 f0, .int .i64 f1] 103 (0, 0))) : W.cell? ⟨g, 1, none⟩ = some (.int .i64 f1) := (blk_cell h 1).trans rfl
theorem IsS103.set_1 {w0 W : World} {g : Nat} {f0 : Int} {f1 : Int} (h : IsS103 w0 W g f0 f1) (x : Int) : IsS103 w0 (W.setCell ⟨g, 1, none⟩ (.int .i64 x)) g f0 x := by
 obtain ⟨hb, hg⟩ := h
 exact ⟨by simpa using blk_set hb 1 (.int .i64 x), hg⟩
theorem IsS103.new (w0 W : World) (f0 : Int) (f1 : Int) (hB : Below w0.heap.size w0 W) : IsS103 w0 (W.alloc (.cells #[.int .i64 f0, .int .i64 f1] 103)) W.heap.size f0 f1 := ⟨by simpa using heap_alloc_new W _, hB.size⟩
/-! ### impl_punchedBy: function 75: by this session -/
instance impl_punchedBy_inh : Inhabited S103 := ⟨z103⟩
def impl_strokeLt (a b : S103) : Bool := decide (a.f0 < b.f0 ∨ (a.f0 = b.f0 ∧ a.f1 < b.f1))
theorem impl_strokeLt.swo : Go.Sort.SWO impl_strokeLt := by
 constructor
 ·intro x; unfold impl_strokeLt; exact decide_eq_false (by omega)
 ·intro x y z h1 h2; unfold impl_strokeLt at *; have := of_decide_eq_true h1; have := of_decide_eq_true h2; exact decide_eq_true (by omega)
 intro x y z h1 h2; unfold impl_strokeLt at *; have := of_decide_eq_false h1; have := of_decide_eq_false h2; exact decide_eq_false (by omega)
/-- The row in order, where two that come before neither of them are the same. -/
def impl_sortStrokes.f (l : List S103) : Option (List S103) := if l.length ≤ 8796093022208 ∧ ∀ a ∈ l, ∀ b ∈ l, impl_strokeLt a b = false → impl_strokeLt b a = false → a.f0 = b.f0 ∧ a.f1 = b.f1 then some (l.mergeSort (fun a b => !impl_strokeLt b a)) else none
theorem impl_sortStrokes.uniq {l r ys : List S103} (h : impl_sortStrokes.f l = some r) (hp : ys.Perm l) (hs : ys.Pairwise (fun a b => impl_strokeLt b a = false)) : ys = r := by
 unfold impl_sortStrokes.f at h
 split at h
 ·rename_i hc
  obtain rfl := Option.some.inj h
  have hO := impl_strokeLt.swo
  have hm := List.mergeSort_perm l (fun a b => !impl_strokeLt b a)
  have hq : (l.mergeSort (fun a b => !impl_strokeLt b a)).Pairwise (fun a b => impl_strokeLt b a = false) := by
   have := List.pairwise_mergeSort (le := fun a b => !impl_strokeLt b a) (by
    intro a b c h1 h2
    simp only [Bool.not_eq_true'] at *
    exact hO.ntrans c b a h2 h1) (by
    intro a b
    simp only [Bool.or_eq_true, Bool.not_eq_true']
    by_cases h : impl_strokeLt b a = true
    ·right
     cases h2 : impl_strokeLt a b with
     | false => rfl
     | true => have := hO.trans a b a h2 h; rw [hO.irrefl] at this; cases this
    left; exact Bool.eq_false_iff.2 h) l
   exact this.imp (fun h => by simpa using h)
  refine order_unique (fun a b => impl_strokeLt b a = false) ys _ (hp.trans hm.symm) hs hq (fun a ha b hb h1 h2 => ?_)
  have := hc.2 a (hp.mem_iff.1 ha) b (hp.mem_iff.1 hb) h2 h1
  obtain ⟨a0, a1⟩ := a
  obtain ⟨b0, b1⟩ := b
  simp only at this
  obtain ⟨rfl, rfl⟩ := this
  rfl
 cases h
theorem impl_sortStrokes.short {l r : List S103} (h : impl_sortStrokes.f l = some r) : l.length < 1152921504606846976 := by
 unfold impl_sortStrokes.f at h
 split at h
 ·omega
 cases h
theorem impl_punchedBy_1.lt (i j : Nat) (l : List S103) (hi : i < l.length) (hj : j < l.length) : impl_punchedBy_1.f i j l = some (impl_strokeLt l[i]! l[j]!) := by
 have e1 : rd_T103 l (i : Int) = l[i]! := by unfold rd_T103; rw [Int.toNat_natCast, List.getD_eq_getElem?_getD, List.getElem?_eq_getElem hi, getElem!_pos l i hi]; rfl
 have e2 : rd_T103 l (j : Int) = l[j]! := by unfold rd_T103; rw [Int.toNat_natCast, List.getD_eq_getElem?_getD, List.getElem?_eq_getElem hj, getElem!_pos l j hj]; rfl
 unfold impl_punchedBy_1.f
 rw [if_pos (by omega), if_pos (by omega), if_pos (by omega), if_pos (by omega), e1, e2]
 unfold impl_strokeLt
 split
 ·simp only [Option.some.injEq, decide_eq_decide]; omega
 simp only [Option.some.injEq, decide_eq_decide]; omega
noncomputable def impl_punchedBy.ie : TypeInfo := (Try.prog.info? 103).get (by kernel_rfl)
noncomputable def impl_punchedBy.it : TypeInfo := (Try.prog.info? 63).get (by kernel_rfl)
set_option maxHeartbeats 2000000 in
/-- sort.SliceStable with this closure, at a row of the call's own that a boxed variable holds. -/
theorem impl_punchedBy.sorts (xs zs : List S103) (A : Option Addr) (c : Nat) (gb base : Nat) (W : World) (hz : impl_sortStrokes.f xs = some zs) (hR : Kd.R k103 103 W base (fun k_ => k_ ≠ gb) (.slice A xs.length c) xs)
  (hbx : W.heap[gb]? = some (.cells #[.slice A xs.length c] 63 (0, 0))) :
  Calls Try.prog 99 #[.iface 63 (.slice A xs.length c), .func (.func 100) #[] #[.pointer (some ⟨gb, 0, none⟩)]] W fun e' w' => e' = .returned (.tuple #[]) ∧
   xs.length = zs.length ∧ Kd.R k103 103 w' base (fun k_ => k_ ≠ gb) (.slice A zs.length c) zs ∧ w'.heap[gb]? = some (.cells #[.slice A zs.length c] 63 (0, 0)) ∧ W.grownBy w' (Value.ownBlock (.slice A xs.length c)) := by
 have hgb : gb < W.heap.size := (Array.getElem?_eq_some_iff.1 hbx).1
 have hne : some gb ≠ Value.ownBlock (.slice A xs.length c) := fun e => hR.1 gb e.symm rfl
 have hK : ∀ n, Lib.swapperK n impl_punchedBy.ie 25 = if n = 0 then 1 else if n = 1 then 2 else 9 := by
  intro n
  have a : impl_punchedBy.ie.hasPointers = false := by kernel_rfl
  have b : impl_punchedBy.ie.bytes = 16 := by kernel_rfl
  rcases Nat.lt_or_ge n 2 with h | h
  ·rcases Nat.eq_zero_or_pos n with h0 | h0
   ·subst h0; simp [Lib.swapperK]
   obtain rfl : n = 1 := by omega
   simp [Lib.swapperK]
  have c : (n == 0) = false := by simp; omega
  have d : (n == 1) = false := by simp; omega
  rw [if_neg (by omega), if_neg (by omega)]
  simp [Lib.swapperK, a, b, c, d]
 have hf : ∀ n, Try.prog.funcs.findIdx? (·.name == "internal/reflectlite" ++ ".Swapper$" ++ toString (Lib.swapperK n impl_punchedBy.ie 25)) = some (if n = 0 then 129 else if n = 1 then 130 else 137) := by
  intro n
  rw [hK]
  by_cases h0 : n = 0
  ·rw [if_pos h0, if_pos h0]; kernel_rfl
  rw [if_neg h0, if_neg h0]
  by_cases h1 : n = 1
  ·rw [if_pos h1, if_pos h1]; kernel_rfl
  rw [if_neg h1, if_neg h1]; kernel_rfl
 refine (sort_rows Try.laysGt8 63 103 impl_punchedBy.it impl_punchedBy.ie (by kernel_rfl) (by kernel_rfl) (by kernel_rfl) (by kernel_rfl) 25 (fun _ => by kernel_rfl) k103 (fun x => [.int .i64 x.f0, .int .i64 x.f1]) (fun w base ok x cs => by show k103.M w base ok x cs ↔ _; exact ⟨k103_openM, fun h => h ▸ k103_mkM _ _ _ _⟩) (fun _ => rfl) (by kernel_rfl) (fun _ => by kernel_rfl) impl_strokeLt impl_strokeLt.swo 100 #[.pointer (some ⟨gb, 0, none⟩)]
  (enters_of Try.func100 (by kernel_rfl) rfl) false _ hf (fun n h2 args W => by
   rw [if_neg (by omega), if_neg (by omega)]
   exact run_callFunc_extern Try.func137 (by kernel_rfl) (by kernel_rfl) (by kernel_rfl) (e := Extern.ReflectliteSwapper.swap false) (by kernel_rfl) args W) A c xs base (fun k_ => k_ ≠ gb) W (impl_sortStrokes.short hz) hR ?_).mono ?_
 ·intro W' ys hl hC hg i j hi hj
  have hb' : W'.heap[gb]? = some (.cells #[.slice A ys.length c] 63 (0, 0)) := by rw [hg.block gb hgb hne, hbx, hl]
  have hc : xs.length ≤ c := (Kd.R_reads' hR).2.1
  have := impl_punchedBy_1.calls i j gb A c ys (impl_strokeLt ys[i]! ys[j]!) W' (by rw [hl]; exact hC) (by omega) hb' (impl_punchedBy_1.lt i j ys (by omega) (by omega))
  exact this.mono fun e w h => ⟨h.1, h.2.below⟩
 rintro e' w' ⟨he, ys, hp, hs, ho, hg⟩
 obtain rfl := impl_sortStrokes.uniq hz hp hs
 have hl := hp.length_eq
 rw [← hl] at ho
 exact ⟨he, hl.symm, ho, by rw [hg.block gb hgb hne, hbx, hl], hg⟩
def impl_punchedBy.l0 : Nat → List (S90) → List (S103) → Int → Int → Option ((List (S90)) × Bool)
 | 0, _, _, _, _ => none
 | k + 1, x5, x17, x18, x19 => if x19 < x18 then (if 0 ≤ x19 then (if x19 < (x17.length : Int) then (if (wrap64 ((x5.length : Int) - 1)) ≥ 0 then (if 0 ≤ (wrap64 ((x5.length : Int) - 1)) then (if (wrap64 ((x5.length : Int) - 1)) < (x5.length : Int) then (if ((rd_T90 x5 (wrap64 ((x5.length : Int) - 1))).f0) = ((rd_T103 x17 x19).f0) then (if ((rd_T90 x5 (wrap64 ((x5.length : Int) - 1))).f2) ≥ ((rd_T103 x17 x19).f1) then (impl_punchedBy.l0 k (x5.set ((wrap64 ((x5.length : Int) - 1)) : Int).toNat (⟨(rd_T90 x5 (wrap64 ((x5.length : Int) - 1))).f0, (rd_T90 x5 (wrap64 ((x5.length : Int) - 1))).f1, mx ((rd_T90 x5 (wrap64 ((x5.length : Int) - 1))).f2) (mn (wrap64 (((rd_T103 x17 x19).f1) + 4)) 2000)⟩ : S90)) x17 x18 (wrap64 (x19 + 1))) else (if x5.length < 5864062014805 then (impl_punchedBy.l0 k (x5 ++ [(⟨(rd_T103 x17 x19).f0, (rd_T103 x17 x19).f1, mn (wrap64 (((rd_T103 x17 x19).f1) + 4)) 2000⟩ : S90)]) x17 x18 (wrap64 (x19 + 1))) else (none))) else (if x5.length < 5864062014805 then (impl_punchedBy.l0 k (x5 ++ [(⟨(rd_T103 x17 x19).f0, (rd_T103 x17 x19).f1, mn (wrap64 (((rd_T103 x17 x19).f1) + 4)) 2000⟩ : S90)]) x17 x18 (wrap64 (x19 + 1))) else (none))) else (none)) else (none)) else (if x5.length < 5864062014805 then (impl_punchedBy.l0 k (x5 ++ [(⟨(rd_T103 x17 x19).f0, (rd_T103 x17 x19).f1, mn (wrap64 (((rd_T103 x17 x19).f1) + 4)) 2000⟩ : S90)]) x17 x18 (wrap64 (x19 + 1))) else (none))) else (none)) else (none)) else ((impl_sheetOf.f k x5).bind fun Ea => (some (Ea.1, Ea.2)))
def impl_punchedBy.f (k : Nat) (l0 : List (S103)) : Option ((List (S90)) × Bool) := (slices_Clone_Stroke.f l0).bind fun mC => ((impl_sortStrokes.f mC).bind fun aH => (impl_punchedBy.l0 k (([] : List (S90))) aH (aH.length : Int) 0))
theorem impl_punchedBy.mono_l : ∀ k, (∀ y0 y1 y2 y3, LeO (impl_punchedBy.l0 k y0 y1 y2 y3) (impl_punchedBy.l0 (k + 1) y0 y1 y2 y3))
 | 0 => fun _ _ _ _ r h => by simp [impl_punchedBy.l0] at h
 | k + 1 => by
  have ih0 := impl_punchedBy.mono_l k
  ·intro y0 y1 y2 y3
   unfold impl_punchedBy.l0
   exact mo13_
theorem impl_punchedBy.mono : ∀ a0 k, LeO (impl_punchedBy.f k a0) (impl_punchedBy.f (k + 1) a0) := by
 intro a0 k
 have ih0 := impl_punchedBy.mono_l k
 unfold impl_punchedBy.f
 exact mo13_
set_option maxHeartbeats 8000000 in
set_option maxRecDepth 100000 in
theorem impl_punchedBy.calls (k : Nat) (A0 : Option Addr) (c0 : Nat) (l0 : List (S103)) (r1 : List (S90)) (r2 : Bool) (w : World) (hr0 : Kd.C k103 w A0 l0.length l0) (hc0 : l0.length ≤ c0) (h : impl_punchedBy.f k l0 = some (r1, r2)) :
  Calls Try.prog 75 #[.slice A0 l0.length c0] w fun e w' => ∃ v0_ : Value, e = .returned (.tuple #[v0_, .bool r2]) ∧ Kd.R k90 90 w' w.heap.size (fun _ => True) v0_ r1 ∧ Below w.heap.size w w' := by
 have hu103 := Try.underlying103
 have hu90 := Try.underlying90
 have HR0 := Aside0.mk hr0
 have HC0 := Aside0.mk hc0
 clear hr0 hc0
 have HB := Aside0.mk (Below.refl w.heap.size w)
 have H : ((slices_Clone_Stroke.f l0).bind fun mC => ((impl_sortStrokes.f mC).bind fun aH => (impl_punchedBy.l0 k (([] : List (S90))) aH (aH.length : Int) 0))) = some (r1, r2) := h
 clear h
 obtain ⟨mC, A2, H⟩ := bd_ H
 (try dsimp only at H)
 obtain ⟨aH, A3, H⟩ := bd_ H
 (try dsimp only at H)
 obtain ⟨G7, sY⟩ : ∃ y_ : List (S90), y_ = (([] : List (S90))) := ⟨_, rfl⟩
 replace H : (impl_punchedBy.l0 k G7 aH (aH.length : Int) 0) = some (r1, r2) := hx_ sY H
 have Eb := Aside0.mk sY
 clear sY
 have H' := Aside0.mk H
 clear H
 go_enter Try.func75, Try.ntmps75
 go_wp2_with (first | (go_at_call 98; (with_reducible refine (slices_Clone_Stroke.calls _ _ l0 mC _ ?_ ?_ A2.out).mono ?_); exact Z118; exact HC0.out; rintro e w4 ⟨v239, rfl, ho0, hb⟩; refine k2_ (Kd.R_lower ho0 (below_size (Z5))) (below_step (Z5) hb) ?_; clear HB; intro ll HB; (try clear hb ho0); obtain ⟨zF, xf, Jb⟩ := Kd.R_slice ll.out; subst Jb) | ((with_reducible refine gate_dst (N := 4) rfl ?_); refine bv_ 4 63 #[.slice none 0 0] ?_; intro gbS hg wS hbox hb; refine k4_ (Kd.R_mono (Kd.R_below (Kd.R_elderB (Z2 ll) gbS (Nat.le_of_eq hg.symm)) hb) (ok' := fun k_ => k_ ≠ gbS) (fun _ hk => hk.2)) (below_step (Z5) hb) hbox ((Z38 : w.heap.size ≤ gbS)) ?_; clear ll HB; intro ll HB BKS GES; clear hb hbox hg; have hcS : wS.cell? ⟨gbS, 0, none⟩ = some (.slice none 0 0) := (blk_cell BKS.out 0).trans rfl; have hfS := blk_frozen BKS.out 0) | (go_at_call 99; refine (impl_punchedBy.sorts mC aH zF xf gbS w.heap.size (wS.setCell ⟨gbS, 0, none⟩ (.slice zF mC.length xf)) A3.out (Kd.R_far (p := ⟨gbS, 0, none⟩) ll.out (fun _ hk => hk) (.slice zF mC.length xf)) (blk_put (cs := #[.slice none 0 0]) BKS.out 0 (.slice zF mC.length xf) rfl)).mono ?_; rintro e wT ⟨rfl, hln, ho, hbx, hg⟩; have n1_ := Aside0.mk ((below_set HB.out GES.out).grown hg (Z236) (fun k_ hk_ => Kd.R_base ll.out k_ hk_)); clear ll HB BKS hcS hfS hg; have sZ := Aside0.mk (Kd.R_mono ho (ok' := fun _ => True) (fun _ _ => trivial)); have ll := sZ; have HB := n1_; have BKS := Aside0.mk hbx; clear ho hbx n1_; have hcS : wT.cell? ⟨gbS, 0, none⟩ = some (.slice zF aH.length xf) := (blk_cell BKS.out 0).trans rfl; rw [hln]) | ((with_reducible refine gate_dst (N := 16) rfl ?_); refine Kd.R_lit k90 _ 90 ?hg (N := 16) ?hd (xs := ([] : List (S90))) (inner := []) (ok := fun _ => True) (okp := fun _ => True) ?hr ?hp (fun _ hk => hk) trivial (Below.refl _ _) (Nat.le_refl _) (by simp) ?_; (case hd => rfl); (case hg => rfl); (case hr => exact Z110); (case hp => exact (Reps.none _ _)); intro v245 w7 ho8 hb hg_ hnew_; clear hg_ hnew_; (first | rw [← Eb.out] at ho8 | (simp only [Int.reduceToNat] at ho8; rw [← Eb.out] at ho8)); refine k4_ (Ya_ ll) (Ya_ sZ) (Kd.R_lower ho8 (below_size (Z5))) (below_step (Z5) hb) ?_; clear ll sZ HB; intro ll sZ HO246 HB; have nb_ := Aside0.mk (blk_below (g := gbS) BKS.out hb); clear BKS hcS; have BKS := nb_; clear nb_; have hcS : w7.cell? ⟨gbS, 0, none⟩ = some (.slice zF aH.length xf) := (blk_cell BKS.out 0).trans rfl; clear hb ho8))
 (try simp only [Act.put, List.setIfInBounds_toArray, List.set_cons_zero, List.set_cons_succ])
 go_loopg [5, 19] k (fun kq v5 v19 w' => ∃ (aY : List (S90)) (ax : Int), v19 = .int .i64 ax ∧ Aside0 (impl_punchedBy.l0 kq aY aH (aH.length : Int) ax = some (r1, r2)) ∧ Aside0 (kq ≤ k) ∧ Aside0 (Kd.R k90 90 w' w.heap.size (fun _ => True) v5 aY) ∧ Aside0 (Kd.R k103 103 w' w.heap.size (fun _ => True) (.slice zF aH.length xf) aH) ∧ Aside0 (Below w.heap.size w w'))
 case atStart => exact ⟨(G7), (0), (Z41), H', ⟨Nat.le_refl _⟩, ⟨Z2 HO246⟩, ⟨Z47 sZ⟩, ⟨Z5⟩⟩
 case round =>
  clear H'
  (try clear p2); (try clear c3)
  obtain ⟨aY, ax, rfl, HA, HK1, bh, br, HB⟩ := hrel
  cases gk with
  | zero => exact absurd HA.out (by simp [impl_punchedBy.l0])
  | succ k1 =>
   have H := HA.out
   clear HA
   simp only [impl_punchedBy.l0] at H
   by_cases c10 : ax < (aH.length : Int)
   ·rw [if_pos c10] at H
    have ga : decide (ax < (aH.length : Int)) = true := decide_eq_true c10
    clear c10
    by_cases c11 : 0 ≤ ax
    case neg => rw [if_neg c11] at H; exact absurd H (by simp)
    rw [if_pos c11] at H
    have iY : decide (0 ≤ ax) = true := decide_eq_true c11
    clear c11
    by_cases c12 : ax < (aH.length : Int)
    case neg => rw [if_neg c12] at H; exact absurd H (by simp)
    rw [if_pos c12] at H
    have na : decide (ax < (aH.length : Int)) = true := decide_eq_true c12
    clear c12
    obtain ⟨fo, hji13⟩ : ∃ j_ : Int, (mn (wrap64 (((rd_T103 aH ax).f1) + 4)) 2000) = j_ := ⟨_, rfl⟩
    replace H : (if (wrap64 ((aY.length : Int) - 1)) ≥ 0 then (if 0 ≤ (wrap64 ((aY.length : Int) - 1)) then (if (wrap64 ((aY.length : Int) - 1)) < (aY.length : Int) then (if ((rd_T90 aY (wrap64 ((aY.length : Int) - 1))).f0) = ((rd_T103 aH ax).f0) then (if ((rd_T90 aY (wrap64 ((aY.length : Int) - 1))).f2) ≥ ((rd_T103 aH ax).f1) then (impl_punchedBy.l0 k1 (aY.set ((wrap64 ((aY.length : Int) - 1)) : Int).toNat (⟨(rd_T90 aY (wrap64 ((aY.length : Int) - 1))).f0, (rd_T90 aY (wrap64 ((aY.length : Int) - 1))).f1, mx ((rd_T90 aY (wrap64 ((aY.length : Int) - 1))).f2) (fo)⟩ : S90)) aH (aH.length : Int) (wrap64 (ax + 1))) else (if aY.length < 5864062014805 then (impl_punchedBy.l0 k1 (aY ++ [(⟨(rd_T103 aH ax).f0, (rd_T103 aH ax).f1, fo⟩ : S90)]) aH (aH.length : Int) (wrap64 (ax + 1))) else (none))) else (if aY.length < 5864062014805 then (impl_punchedBy.l0 k1 (aY ++ [(⟨(rd_T103 aH ax).f0, (rd_T103 aH ax).f1, fo⟩ : S90)]) aH (aH.length : Int) (wrap64 (ax + 1))) else (none))) else (none)) else (none)) else (if aY.length < 5864062014805 then (impl_punchedBy.l0 k1 (aY ++ [(⟨(rd_T103 aH ax).f0, (rd_T103 aH ax).f1, fo⟩ : S90)]) aH (aH.length : Int) (wrap64 (ax + 1))) else (none))) = some (r1, r2) := by first | (rw [hji13] at H; exact H) | (simp only [hji13] at H ⊢; exact H)
    have hji13_ : (if 2000 < (wrap64 (((rd_T103 aH ax).f1) + 4)) then 2000 else (wrap64 (((rd_T103 aH ax).f1) + 4))) = fo := hji13
    by_cases c14 : (wrap64 ((aY.length : Int) - 1)) ≥ 0
    ·rw [if_pos c14] at H
     have qM : decide (0 ≤ (wrap64 ((aY.length : Int) - 1))) = true := decide_eq_true c14
     clear c14
     obtain ⟨bq, hji15⟩ : ∃ j_ : Int, (wrap64 ((aY.length : Int) - 1)) = j_ := ⟨_, rfl⟩
     replace H : (if 0 ≤ (bq) then (if (bq) < (aY.length : Int) then (if ((rd_T90 aY (bq)).f0) = ((rd_T103 aH ax).f0) then (if ((rd_T90 aY (bq)).f2) ≥ ((rd_T103 aH ax).f1) then (impl_punchedBy.l0 k1 (aY.set ((bq) : Int).toNat (⟨(rd_T90 aY (bq)).f0, (rd_T90 aY (bq)).f1, mx ((rd_T90 aY (bq)).f2) (fo)⟩ : S90)) aH (aH.length : Int) (wrap64 (ax + 1))) else (if aY.length < 5864062014805 then (impl_punchedBy.l0 k1 (aY ++ [(⟨(rd_T103 aH ax).f0, (rd_T103 aH ax).f1, fo⟩ : S90)]) aH (aH.length : Int) (wrap64 (ax + 1))) else (none))) else (if aY.length < 5864062014805 then (impl_punchedBy.l0 k1 (aY ++ [(⟨(rd_T103 aH ax).f0, (rd_T103 aH ax).f1, fo⟩ : S90)]) aH (aH.length : Int) (wrap64 (ax + 1))) else (none))) else (none)) else (none)) = some (r1, r2) := by first | (rw [hji15] at H; exact H) | (simp only [hji15] at H ⊢; exact H)
     (try rw [hji15] at qM)
     have hji15w : (IntKind.i64.wrap ((aY.length : Int) - 1)) = bq := (i64_w _).trans hji15
     by_cases c16 : 0 ≤ (bq)
     case neg => rw [if_neg c16] at H; exact absurd H (by simp)
     rw [if_pos c16] at H
     have mU : decide (0 ≤ (bq)) = true := decide_eq_true c16
     clear c16
     by_cases c17 : (bq) < (aY.length : Int)
     case neg => rw [if_neg c17] at H; exact absurd H (by simp)
     rw [if_pos c17] at H
     have sA : decide ((bq) < (aY.length : Int)) = true := decide_eq_true c17
     clear c17
     by_cases c18 : ((rd_T90 aY (bq)).f0) = ((rd_T103 aH ax).f0)
     ·rw [if_pos c18] at H
      have mi : (((rd_T90 aY (bq)).f0) == ((rd_T103 aH ax).f0)) = true := beq_iff_eq.mpr c18
      have qR : (((rd_T90 aY (bq)).f0) != ((rd_T103 aH ax).f0)) = false := bne_eq_false_iff_eq.mpr c18
      clear c18
      by_cases c19 : ((rd_T90 aY (bq)).f2) ≥ ((rd_T103 aH ax).f1)
      ·rw [if_pos c19] at H
       have zI : decide (((rd_T103 aH ax).f1) ≤ ((rd_T90 aY (bq)).f2)) = true := decide_eq_true c19
       clear c19
       obtain ⟨g5, hji20⟩ : ∃ j_ : Int, (mx ((rd_T90 aY (bq)).f2) (fo)) = j_ := ⟨_, rfl⟩
       replace H : (impl_punchedBy.l0 k1 (aY.set ((bq) : Int).toNat (⟨(rd_T90 aY (bq)).f0, (rd_T90 aY (bq)).f1, g5⟩ : S90)) aH (aH.length : Int) (wrap64 (ax + 1))) = some (r1, r2) := by first | (rw [hji20] at H; exact H) | (simp only [hji20] at H ⊢; exact H)
       have hji20_ : (if ((rd_T90 aY (bq)).f2) < (fo) then (fo) else ((rd_T90 aY (bq)).f2)) = g5 := hji20
       obtain ⟨zJ, s9⟩ : ∃ y_ : List (S90), y_ = (aY.set ((bq) : Int).toNat (⟨(rd_T90 aY (bq)).f0, (rd_T90 aY (bq)).f1, g5⟩ : S90)) := ⟨_, rfl⟩
       replace H : (impl_punchedBy.l0 k1 zJ aH (aH.length : Int) (wrap64 (ax + 1))) = some (r1, r2) := hx_ s9 H
       have zK := Aside0.mk s9
       clear s9
       have H' := Aside0.mk H
       clear H
       have mD : 0 ≤ (ax : Int) := of_decide_eq_true (Z21)
       have mE : ax < (aH.length : Int) := of_decide_eq_true (Z21)
       obtain ⟨qX, e247, rh, ri⟩ := at_T103 (Kd.R_reads' br.out).2.2 ax mD mE
       cases e247
       replace mD := eq_true mD
       replace mE := eq_true mE
       go_wp2_with (first | ((with_reducible refine gate_dst (N := 7) rfl ?_); refine bv_ 7 103 #[.int .i64 0, .int .i64 0] ?_; intro aD hg iU hbox hb; refine k6_ (Ya_ bh) (Kd.R_below (Kd.R_elderB (Z2 br) aD (Nat.le_of_eq hg.symm)) hb) (below_step (Z5) hb) (hbox) ((Z38 : w.heap.size ≤ aD)) ((Z38 : w.heap.size ≤ aD)) ?_; clear bh br HB; intro bh br HB bn lm jN; clear hb hbox hg; obtain ⟨g1, g2, g3, g4⟩ := bx2_ (w := iU) bn.out) | ((with_reducible refine gate_store (t := 103) (p := 7) rfl ?_); (try (rw [drewN_self iU]; generalize hq_ : World.drewN iU _ = iU; have n0_ := Aside0.mk (Kd.R_at hq_ bh.out); have n1_ := Aside0.mk (Kd.R_at hq_ br.out); have n2_ := Aside0.mk (blk_at hq_ bn.out); have n3_ := Aside0.mk (below_at hq_ HB.out); clear hq_ bh br bn HB; have bh := n0_; have br := n1_; have bn := n2_; have HB := n3_; clear n0_ n1_ n2_ n3_)); refine store_event (t := 103) (p := 7) (v := ?vo_w24) (w1 := ((iU.setCell ⟨aD, 0, none⟩ (.int .i64 ((rd_T103 aH ax).f0))).setCell ⟨aD, 1, none⟩ (.int .i64 ((rd_T103 aH ax).f1)))) ?hg ?ho ?hn ?hr ?_; (case ho => rfl); (case hg => rfl); (case hn => rfl); (case hr => exact Z110); intro fE hw; have n0_ : Aside0 (Kd.R k90 90 fE w.heap.size (fun _ => True) u5 aY) := ⟨(by rw [hw]; exact Z50)⟩; have n1_ : Aside0 (Kd.R k103 103 fE w.heap.size (fun k_ => k_ ≠ aD) (.slice (some qX) aH.length xf) aH) := ⟨(Z155)⟩; have n2_ : Aside0 (fE.heap[aD]? = some (.cells #[.int .i64 ((rd_T103 aH ax).f0), .int .i64 ((rd_T103 aH ax).f1)] 103 (0, 0))) := ⟨(by rw [hw]; exact Z42)⟩; have n3_ : Aside0 (Below w.heap.size w fE) := ⟨(by rw [hw]; exact Z49)⟩; clear hw; clear bh; clear br; clear bn; clear HB; have bh := n0_; have br := n1_; have bn := n2_; have HB := n3_; clear n0_ n1_ n2_ n3_; obtain ⟨oX, oY, oZ, o0⟩ := bx2_ (w := fE) bn.out; obtain ⟨Fl, mB, uT⟩ := Kd.R_slice bh.out; subst uT; have fK : 0 ≤ ((bq) : Int) := of_decide_eq_true (Z21); have fL : (bq) < (aY.length : Int) := of_decide_eq_true (Z21); obtain ⟨d5, e249, cq, cr, ct⟩ := at_T90 (Kd.R_reads' bh.out).2.2 (bq) fK fL; cases e249; replace fK := eq_true fK; replace fL := eq_true fL; have hY : 0 ≤ ((bq) : Int) := of_decide_eq_true (Z21); have hZ : (bq) < (aY.length : Int) := of_decide_eq_true (Z21); obtain ⟨ln, e250, en, eo, ep⟩ := at_T90 (Kd.R_reads' bh.out).2.2 (bq) hY hZ; obtain rfl : d5 = ln := (by injection e250); replace hY := eq_true hY; replace hZ := eq_true hZ; have pF : 0 ≤ ((bq) : Int) := of_decide_eq_true (Z21); have pG : (bq) < (aY.length : Int) := of_decide_eq_true (Z21); obtain ⟨ta, e251, np, nq, nr⟩ := at_T90 (Kd.R_reads' bh.out).2.2 (bq) pF pG; obtain rfl : d5 = ta := (by injection e251); replace pF := eq_true pF; replace pG := eq_true pG; have zL : 0 ≤ ((bq) : Int) := of_decide_eq_true (Z21); have zM : ((bq) : Int) < ((aY.length : Int) : Int) := of_decide_eq_true (Z21); obtain ⟨go21, xR, qx, tb, gl21, cl21, HG21⟩ := Kd.R_form bh.out (by omega); (first | cases qx | (injection qx with ea_ en_ ec_; (first | subst ea_ | (injection ea_ with ea_; subst ea_)); subst ec_; clear en_)); have GB21 := Aside0.mk tb; have GG21 := Aside0.mk HG21; clear tb gl21 HG21; (first | simp only [add_plain] at cq | skip); (first | simp only [add_plain] at cr | skip); (first | simp only [add_plain] at ct | skip); (first | simp only [add_plain] at en | skip); (first | simp only [add_plain] at eo | skip); (first | simp only [add_plain] at ep | skip); (first | simp only [add_plain] at np | skip); (first | simp only [add_plain] at nq | skip); (first | simp only [add_plain] at nr | skip); obtain ⟨ce21, hcl21, hM21, hcc21, hfr21⟩ := Kd.R_elem bh.out z90 ((bq) : Int) zL zM; obtain rfl := k90_openM hM21; have zN : fE.cell? ⟨go21, ((bq) : Int).toNat * 3, none⟩ = some (.int .i64 ((rd_T90 aY (bq)).f0)) := hcc21 0 _ rfl; have zO : fE.cell? ⟨go21, ((bq) : Int).toNat * 3 + 1, none⟩ = some (.int .i64 ((rd_T90 aY (bq)).f1)) := hcc21 1 _ rfl; have zP : fE.cell? ⟨go21, ((bq) : Int).toNat * 3 + 2, none⟩ = some (.int .i64 ((rd_T90 aY (bq)).f2)) := hcc21 2 _ rfl; have hf21_0 : fE.frozen? ⟨go21, ((bq) : Int).toNat * 3, none⟩ = false := hfr21 0; have hf21_1 : fE.frozen? ⟨go21, ((bq) : Int).toNat * 3 + 1, none⟩ = false := hfr21 1; have hf21_2 : fE.frozen? ⟨go21, ((bq) : Int).toNat * 3 + 2, none⟩ = false := hfr21 2; clear hcl21 hcc21 hfr21 hM21; replace zL := eq_true zL; replace zM := eq_true zM; have HX27 := Aside0.mk (show Kd.R k90 90 fE w.heap.size (fun _ => True) (.slice (some ⟨go21, 0, none⟩) aY.length mB) aY from (Z2 bh)); obtain ⟨ce27, hcl27, hM27, hcc27, hfr27⟩ := Kd.R_elem HX27.out z90 ((bq) : Int) (of_decide_eq_true (Z21)) (Z96); obtain rfl := k90_openM hM27; have HP27 := Kd.R_seg HX27.out ((bq) : Int) (of_decide_eq_true (Z21)) (Z96) (seg := [.int .i64 g5]) (j := 2) hcl27 hcc27 (show 3 ≤ 3 from by decide) (x' := (⟨(rd_T90 aY (bq)).f0, (rd_T90 aY (bq)).f1, g5⟩ : S90)) (k90_mkM _ _ _ (⟨(rd_T90 aY (bq)).f0, (rd_T90 aY (bq)).f1, g5⟩ : S90) ) (fun _ hk => hk); have ia := hcc27 2 _ rfl; (try simp only [show (k90).sz = 3 from rfl, Nat.mul_one, Nat.add_zero] at ia); have hf27_2 := hfr27 2; (try simp only [show (k90).sz = 3 from rfl, Nat.mul_one, Nat.add_zero] at hf27_2); clear hcl27 hcc27 hfr27 hM27))
       repeat (go_quiet (fail); try go_wp2_with ((with_reducible refine gate_store (t := 3) (p := 62) rfl ?_); (try (rw [drewN_self fE]; generalize hq_ : World.drewN fE _ = fE; have n0_ := Aside0.mk (Kd.R_at hq_ bh.out); have n1_ := Aside0.mk (Kd.R_at hq_ br.out); have n2_ := Aside0.mk (blk_at hq_ bn.out); have n3_ := Aside0.mk (below_at hq_ HB.out); clear hq_ bh br bn HB; have bh := n0_; have br := n1_; have bn := n2_; have HB := n3_; clear n0_ n1_ n2_ n3_; (try (have HX27 := Aside0.mk (show Kd.R k90 90 fE w.heap.size (fun _ => True) (.slice (some ⟨go21, 0, none⟩) aY.length mB) aY from (Z2 bh)))); (try (obtain ⟨ce27, hcl27, hM27, hcc27, hfr27⟩ := Kd.R_elem HX27.out z90 ((bq) : Int) (of_decide_eq_true (Z21)) (Z96))); (try (obtain rfl := k90_openM hM27)); (try (have HP27 := Kd.R_seg HX27.out ((bq) : Int) (of_decide_eq_true (Z21)) (Z96) (seg := [.int .i64 g5]) (j := 2) hcl27 hcc27 (show 3 ≤ 3 from by decide) (x' := (⟨(rd_T90 aY (bq)).f0, (rd_T90 aY (bq)).f1, g5⟩ : S90)) (k90_mkM _ _ _ (⟨(rd_T90 aY (bq)).f0, (rd_T90 aY (bq)).f1, g5⟩ : S90) ) (fun _ hk => hk))); (try (have ia := hcc27 2 _ rfl)); (try (try simp only [show (k90).sz = 3 from rfl, Nat.mul_one, Nat.add_zero] at ia)); (try (have hf27_2 := hfr27 2)); (try (try simp only [show (k90).sz = 3 from rfl, Nat.mul_one, Nat.add_zero] at hf27_2)); (try (clear hcl27 hcc27 hfr27 hM27)))); refine store_event (t := 3) (p := 62) (v := ?vo_w28) (w1 := (fE.setCell ⟨go21, ((bq) : Int).toNat * 3 + 2, none⟩ (.int .i64 g5))) ?hg ?ho ?hn ?hr ?_; (case ho => rfl); (case hg => rfl); (case hn => rfl); (case hr => exact Z110); intro pt hw; have hg : fE.grownBy pt (some go21) := (by rw [hw]; exact HP27.2); have hp_ : Kd.R k90 90 pt w.heap.size (fun _ => True) (.slice (some ⟨go21, 0, none⟩) aY.length mB) zJ := (by rw [hw, zK.out]; exact HP27.1); clear HP27; refine k4_ (hp_) (Kd.R_over' (v := (.slice (some ⟨go21, 0, none⟩) aY.length mB)) (Z2 br) (Kd.R_typed bh.out) (by decide) hg) (blk_grown (g := aD) (o := .cells #[.int .i64 ((rd_T103 aH ax).f0), .int .i64 ((rd_T103 aH ax).f1)] 103 (0, 0)) (Z1 bn) hg (Kd.R_ne bh.out bn.out (by decide))) ((by rw [hw]; exact below_set (HB.out) GB21.out : Below w.heap.size w pt)) ?_; clear bh br bn HB; intro bh br bn HB; clear hg hw hp_))
       go_roundg k1
       case measure => have := HK1.out; omega
       case rel => exact ⟨(zJ), (wrap64 (ax + 1)), (Z41), H', ⟨Z182 HK1⟩, ⟨Z2 bh⟩, ⟨Z47 br⟩, ⟨Z49⟩⟩
      rw [if_neg c19] at H
      have zI : decide (((rd_T103 aH ax).f1) ≤ ((rd_T90 aY (bq)).f2)) = false := decide_eq_false c19
      clear c19
      by_cases c29 : aY.length < 5864062014805
      case neg => rw [if_neg c29] at H; exact absurd H (by simp)
      rw [if_pos c29] at H
      have zQ := Aside0.mk c29
      clear c29
      obtain ⟨G8, tc⟩ : ∃ y_ : List (S90), y_ = (aY ++ [(⟨(rd_T103 aH ax).f0, (rd_T103 aH ax).f1, fo⟩ : S90)]) := ⟨_, rfl⟩
      replace H : (impl_punchedBy.l0 k1 G8 aH (aH.length : Int) (wrap64 (ax + 1))) = some (r1, r2) := hx_ tc H
      have zR := Aside0.mk tc
      clear tc
      have H' := Aside0.mk H
      clear H
      have mD : 0 ≤ (ax : Int) := of_decide_eq_true (Z21)
      have mE : ax < (aH.length : Int) := of_decide_eq_true (Z21)
      obtain ⟨qX, e247, rh, ri⟩ := at_T103 (Kd.R_reads' br.out).2.2 ax mD mE
      cases e247
      replace mD := eq_true mD
      replace mE := eq_true mE
      go_wp2_with ((with_reducible refine gate_dst (N := 7) rfl ?_); refine bv_ 7 103 #[.int .i64 0, .int .i64 0] ?_; intro aD hg nt hbox hb; refine k6_ (Ya_ bh) (Kd.R_below (Kd.R_elderB (Z2 br) aD (Nat.le_of_eq hg.symm)) hb) (below_step (Z5) hb) (hbox) ((Z38 : w.heap.size ≤ aD)) ((Z38 : w.heap.size ≤ aD)) ?_; clear bh br HB; intro bh br HB bn lm jN; clear hb hbox hg; obtain ⟨rj, rk, rl, rm⟩ := bx2_ (w := nt) bn.out; obtain ⟨td, mF, pH⟩ := Kd.R_slice bh.out; subst pH; have fK : 0 ≤ ((bq) : Int) := of_decide_eq_true (Z21); have fL : (bq) < (aY.length : Int) := of_decide_eq_true (Z21); obtain ⟨d5, e249, cq, cr, ct⟩ := at_T90 (Kd.R_reads' bh.out).2.2 (bq) fK fL; cases e249; have hn249_0 : d5.block ≠ aD := Kd.own_blk (Kd.R_ne bh.out bn.out (by decide)); have hn249_1 : d5.block ≠ aD := Kd.own_blk (Kd.R_ne bh.out bn.out (by decide)); replace cq := (cell_far (p := ⟨aD, 0, none⟩) (Z84) (.int .i64 ((rd_T103 aH ax).f0))).trans cq; replace cr := (cell_far (p := ⟨aD, 0, none⟩) (Z84) (.int .i64 ((rd_T103 aH ax).f0))).trans cr; replace ct := (cell_far (p := ⟨aD, 0, none⟩) (Z84) (.int .i64 ((rd_T103 aH ax).f0))).trans ct; replace cq := (cell_far (p := ⟨aD, 1, none⟩) (Z85) (.int .i64 ((rd_T103 aH ax).f1))).trans cq; replace cr := (cell_far (p := ⟨aD, 1, none⟩) (Z85) (.int .i64 ((rd_T103 aH ax).f1))).trans cr; replace ct := (cell_far (p := ⟨aD, 1, none⟩) (Z85) (.int .i64 ((rd_T103 aH ax).f1))).trans ct; (try have hy249_0 := fun (n_ : Nat) => (show ((((nt.drewN n_).setCell ⟨aD, 0, none⟩ (.int .i64 ((rd_T103 aH ax).f0))).setCell ⟨aD, 1, none⟩ (.int .i64 ((rd_T103 aH ax).f1)))).cell? _ = some _ from cq)); (try have hy249_1 := fun (n_ : Nat) => (show ((((nt.drewN n_).setCell ⟨aD, 0, none⟩ (.int .i64 ((rd_T103 aH ax).f0))).setCell ⟨aD, 1, none⟩ (.int .i64 ((rd_T103 aH ax).f1)))).cell? _ = some _ from cr)); (try have hy249_2 := fun (n_ : Nat) => (show ((((nt.drewN n_).setCell ⟨aD, 0, none⟩ (.int .i64 ((rd_T103 aH ax).f0))).setCell ⟨aD, 1, none⟩ (.int .i64 ((rd_T103 aH ax).f1)))).cell? _ = some _ from ct)); clear hn249_0; clear hn249_1; replace fK := eq_true fK; replace fL := eq_true fL; have hY : 0 ≤ ((bq) : Int) := of_decide_eq_true (Z21); have hZ : (bq) < (aY.length : Int) := of_decide_eq_true (Z21); obtain ⟨ln, e250, en, eo, ep⟩ := at_T90 (Kd.R_reads' bh.out).2.2 (bq) hY hZ; obtain rfl : d5 = ln := (by injection e250); have hn250_0 : d5.block ≠ aD := Kd.own_blk (Kd.R_ne bh.out bn.out (by decide)); have hn250_1 : d5.block ≠ aD := Kd.own_blk (Kd.R_ne bh.out bn.out (by decide)); replace en := (cell_far (p := ⟨aD, 0, none⟩) (Z146) (.int .i64 ((rd_T103 aH ax).f0))).trans en; replace eo := (cell_far (p := ⟨aD, 0, none⟩) (Z146) (.int .i64 ((rd_T103 aH ax).f0))).trans eo; replace ep := (cell_far (p := ⟨aD, 0, none⟩) (Z146) (.int .i64 ((rd_T103 aH ax).f0))).trans ep; replace en := (cell_far (p := ⟨aD, 1, none⟩) (Z147) (.int .i64 ((rd_T103 aH ax).f1))).trans en; replace eo := (cell_far (p := ⟨aD, 1, none⟩) (Z147) (.int .i64 ((rd_T103 aH ax).f1))).trans eo; replace ep := (cell_far (p := ⟨aD, 1, none⟩) (Z147) (.int .i64 ((rd_T103 aH ax).f1))).trans ep; (try have hy250_0 := fun (n_ : Nat) => (show ((((nt.drewN n_).setCell ⟨aD, 0, none⟩ (.int .i64 ((rd_T103 aH ax).f0))).setCell ⟨aD, 1, none⟩ (.int .i64 ((rd_T103 aH ax).f1)))).cell? _ = some _ from en)); (try have hy250_1 := fun (n_ : Nat) => (show ((((nt.drewN n_).setCell ⟨aD, 0, none⟩ (.int .i64 ((rd_T103 aH ax).f0))).setCell ⟨aD, 1, none⟩ (.int .i64 ((rd_T103 aH ax).f1)))).cell? _ = some _ from eo)); (try have hy250_2 := fun (n_ : Nat) => (show ((((nt.drewN n_).setCell ⟨aD, 0, none⟩ (.int .i64 ((rd_T103 aH ax).f0))).setCell ⟨aD, 1, none⟩ (.int .i64 ((rd_T103 aH ax).f1)))).cell? _ = some _ from ep)); clear hn250_0; clear hn250_1; replace hY := eq_true hY; replace hZ := eq_true hZ)
      repeat (go_quiet (fail); try go_wp2_with ((with_reducible refine gate_builtin (b := .append) (xs := #[.tmp 63, .tmp 70]) rfl ?_); at_builtin; refine Kd.R_append k90 (w0 := w) w.heap.size rfl (.tmp 63) (.tmp 70) 42 90 (.agg #[(.int .i64 0), (.int .i64 0), (.int .i64 0)]) 24 rfl Try.underlying42 info90 rfl (by decide) (by omega) (.slice (some d5) aY.length mF) aY (⟨(rd_T103 aH ax).f0, (rd_T103 aH ax).f1, fo⟩ : S90) [.int .i64 ((rd_T103 aH ax).f0), .int .i64 ((rd_T103 aH ax).f1), .int .i64 fo] (fun _ => True) (fun _ => False) rfl (Z110) ?aP (fun _ hk => hk.elim) ?aF ?aO ?aB ?aS ?aL ?_; (case aP => exact k90_mkM _ _ _ (⟨(rd_T103 aH ax).f0, (rd_T103 aH ax).f1, fo⟩ : S90)); (case aB => exact Z49); (case aF => exact (fun _ _ => trivial)); (case aO => exact Z50); (case aS => exact (below_size (Z49))); (case aL => exact Z182 zQ); intro G9 u0 ho hb hg hat; rw [← zR.out] at ho; refine k4_ (Kd.R_over' (Z64) (Kd.R_typed (Z67)) (by decide) hg) (blk_grown (g := aD) (o := .cells #[.int .i64 ((rd_T103 aH ax).f0), .int .i64 ((rd_T103 aH ax).f1)] 103 (0, 0)) (Z42) hg (Kd.R_ne bh.out bn.out (by decide))) (hb) (ho) ?_; clear br bn HB bh; intro br bn HB zS; clear ho hb hg hat))
      go_roundg k1
      case measure => have := HK1.out; omega
      case rel => exact ⟨(G8), (wrap64 (ax + 1)), (Z41), H', ⟨Z182 HK1⟩, ⟨Z2 zS⟩, ⟨Z47 br⟩, ⟨Z49⟩⟩
     rw [if_neg c18] at H
     have mi : (((rd_T90 aY (bq)).f0) == ((rd_T103 aH ax).f0)) = false := beq_eq_false_iff_ne.mpr c18
     have qR : (((rd_T90 aY (bq)).f0) != ((rd_T103 aH ax).f0)) = true := bne_iff_ne.mpr c18
     by_cases c34 : aY.length < 5864062014805
     case neg => rw [if_neg c34] at H; exact absurd H (by simp)
     rw [if_pos c34] at H
     have zT := Aside0.mk c34
     clear c34
     obtain ⟨Ha, te⟩ : ∃ y_ : List (S90), y_ = (aY ++ [(⟨(rd_T103 aH ax).f0, (rd_T103 aH ax).f1, fo⟩ : S90)]) := ⟨_, rfl⟩
     replace H : (impl_punchedBy.l0 k1 Ha aH (aH.length : Int) (wrap64 (ax + 1))) = some (r1, r2) := hx_ te H
     have zU := Aside0.mk te
     clear te
     have H' := Aside0.mk H
     clear H
     have mD : 0 ≤ (ax : Int) := of_decide_eq_true (Z21)
     have mE : ax < (aH.length : Int) := of_decide_eq_true (Z21)
     obtain ⟨qX, e247, rh, ri⟩ := at_T103 (Kd.R_reads' br.out).2.2 ax mD mE
     cases e247
     replace mD := eq_true mD
     replace mE := eq_true mE
     go_wp2_with ((with_reducible refine gate_dst (N := 7) rfl ?_); refine bv_ 7 103 #[.int .i64 0, .int .i64 0] ?_; intro aD hg qQ hbox hb; refine k6_ (Ya_ bh) (Kd.R_below (Kd.R_elderB (Z2 br) aD (Nat.le_of_eq hg.symm)) hb) (below_step (Z5) hb) (hbox) ((Z38 : w.heap.size ≤ aD)) ((Z38 : w.heap.size ≤ aD)) ?_; clear bh br HB; intro bh br HB bn lm jN; clear hb hbox hg; obtain ⟨lP, lQ, lR, lS⟩ := bx2_ (w := qQ) bn.out; obtain ⟨Hb, zV, zW⟩ := Kd.R_slice bh.out; subst zW; have fK : 0 ≤ ((bq) : Int) := of_decide_eq_true (Z21); have fL : (bq) < (aY.length : Int) := of_decide_eq_true (Z21); obtain ⟨d5, e249, cq, cr, ct⟩ := at_T90 (Kd.R_reads' bh.out).2.2 (bq) fK fL; cases e249; have hn249_0 : d5.block ≠ aD := Kd.own_blk (Kd.R_ne bh.out bn.out (by decide)); have hn249_1 : d5.block ≠ aD := Kd.own_blk (Kd.R_ne bh.out bn.out (by decide)); replace cq := (cell_far (p := ⟨aD, 0, none⟩) (Z84) (.int .i64 ((rd_T103 aH ax).f0))).trans cq; replace cr := (cell_far (p := ⟨aD, 0, none⟩) (Z84) (.int .i64 ((rd_T103 aH ax).f0))).trans cr; replace ct := (cell_far (p := ⟨aD, 0, none⟩) (Z84) (.int .i64 ((rd_T103 aH ax).f0))).trans ct; replace cq := (cell_far (p := ⟨aD, 1, none⟩) (Z85) (.int .i64 ((rd_T103 aH ax).f1))).trans cq; replace cr := (cell_far (p := ⟨aD, 1, none⟩) (Z85) (.int .i64 ((rd_T103 aH ax).f1))).trans cr; replace ct := (cell_far (p := ⟨aD, 1, none⟩) (Z85) (.int .i64 ((rd_T103 aH ax).f1))).trans ct; (try have hy249_0 := fun (n_ : Nat) => (show ((((qQ.drewN n_).setCell ⟨aD, 0, none⟩ (.int .i64 ((rd_T103 aH ax).f0))).setCell ⟨aD, 1, none⟩ (.int .i64 ((rd_T103 aH ax).f1)))).cell? _ = some _ from cq)); (try have hy249_1 := fun (n_ : Nat) => (show ((((qQ.drewN n_).setCell ⟨aD, 0, none⟩ (.int .i64 ((rd_T103 aH ax).f0))).setCell ⟨aD, 1, none⟩ (.int .i64 ((rd_T103 aH ax).f1)))).cell? _ = some _ from cr)); (try have hy249_2 := fun (n_ : Nat) => (show ((((qQ.drewN n_).setCell ⟨aD, 0, none⟩ (.int .i64 ((rd_T103 aH ax).f0))).setCell ⟨aD, 1, none⟩ (.int .i64 ((rd_T103 aH ax).f1)))).cell? _ = some _ from ct)); clear hn249_0; clear hn249_1; replace fK := eq_true fK; replace fL := eq_true fL)
     repeat (go_quiet (fail); try go_wp2_with ((with_reducible refine gate_builtin (b := .append) (xs := #[.tmp 63, .tmp 70]) rfl ?_); at_builtin; refine Kd.R_append k90 (w0 := w) w.heap.size rfl (.tmp 63) (.tmp 70) 42 90 (.agg #[(.int .i64 0), (.int .i64 0), (.int .i64 0)]) 24 rfl Try.underlying42 info90 rfl (by decide) (by omega) (.slice (some d5) aY.length zV) aY (⟨(rd_T103 aH ax).f0, (rd_T103 aH ax).f1, fo⟩ : S90) [.int .i64 ((rd_T103 aH ax).f0), .int .i64 ((rd_T103 aH ax).f1), .int .i64 fo] (fun _ => True) (fun _ => False) rfl (Z110) ?aP (fun _ hk => hk.elim) ?aF ?aO ?aB ?aS ?aL ?_; (case aP => exact k90_mkM _ _ _ (⟨(rd_T103 aH ax).f0, (rd_T103 aH ax).f1, fo⟩ : S90)); (case aB => exact Z49); (case aF => exact (fun _ _ => trivial)); (case aO => exact Z50); (case aS => exact (below_size (Z49))); (case aL => exact Z182 zT); intro Hc Ct ho hb hg hat; rw [← zU.out] at ho; refine k4_ (Kd.R_over' (Z64) (Kd.R_typed (Z67)) (by decide) hg) (blk_grown (g := aD) (o := .cells #[.int .i64 ((rd_T103 aH ax).f0), .int .i64 ((rd_T103 aH ax).f1)] 103 (0, 0)) (Z42) hg (Kd.R_ne bh.out bn.out (by decide))) (hb) (ho) ?_; clear br bn HB bh; intro br bn HB zX; clear ho hb hg hat))
     go_roundg k1
     case measure => have := HK1.out; omega
     case rel => exact ⟨(Ha), (wrap64 (ax + 1)), (Z41), H', ⟨Z182 HK1⟩, ⟨Z2 zX⟩, ⟨Z47 br⟩, ⟨Z49⟩⟩
    rw [if_neg c14] at H
    have qM : decide (0 ≤ (wrap64 ((aY.length : Int) - 1))) = false := decide_eq_false c14
    clear c14
    by_cases c39 : aY.length < 5864062014805
    case neg => rw [if_neg c39] at H; exact absurd H (by simp)
    rw [if_pos c39] at H
    have pI := Aside0.mk c39
    clear c39
    obtain ⟨Hd, tf⟩ : ∃ y_ : List (S90), y_ = (aY ++ [(⟨(rd_T103 aH ax).f0, (rd_T103 aH ax).f1, fo⟩ : S90)]) := ⟨_, rfl⟩
    replace H : (impl_punchedBy.l0 k1 Hd aH (aH.length : Int) (wrap64 (ax + 1))) = some (r1, r2) := hx_ tf H
    have zY := Aside0.mk tf
    clear tf
    have H' := Aside0.mk H
    clear H
    have mD : 0 ≤ (ax : Int) := of_decide_eq_true (Z21)
    have mE : ax < (aH.length : Int) := of_decide_eq_true (Z21)
    obtain ⟨qX, e247, rh, ri⟩ := at_T103 (Kd.R_reads' br.out).2.2 ax mD mE
    cases e247
    replace mD := eq_true mD
    replace mE := eq_true mE
    go_wp2_with ((with_reducible refine gate_dst (N := 7) rfl ?_); refine bv_ 7 103 #[.int .i64 0, .int .i64 0] ?_; intro aD hg Ec hbox hb; refine k6_ (Ya_ bh) (Kd.R_below (Kd.R_elderB (Z2 br) aD (Nat.le_of_eq hg.symm)) hb) (below_step (Z5) hb) (hbox) ((Z38 : w.heap.size ≤ aD)) ((Z38 : w.heap.size ≤ aD)) ?_; clear bh br HB; intro bh br HB bn lm jN; clear hb hbox hg; obtain ⟨oP, oQ, oR, oS⟩ := bx2_ (w := Ec) bn.out; obtain ⟨zZ, z2, z3⟩ := Kd.R_slice bh.out; subst z3)
    repeat (go_quiet (fail); try go_wp2_with ((with_reducible refine gate_builtin (b := .append) (xs := #[.tmp 63, .tmp 70]) rfl ?_); at_builtin; refine Kd.R_append k90 (w0 := w) w.heap.size rfl (.tmp 63) (.tmp 70) 42 90 (.agg #[(.int .i64 0), (.int .i64 0), (.int .i64 0)]) 24 rfl Try.underlying42 info90 rfl (by decide) (by omega) (.slice zZ aY.length z2) aY (⟨(rd_T103 aH ax).f0, (rd_T103 aH ax).f1, fo⟩ : S90) [.int .i64 ((rd_T103 aH ax).f0), .int .i64 ((rd_T103 aH ax).f1), .int .i64 fo] (fun _ => True) (fun _ => False) rfl (Z110) ?aP (fun _ hk => hk.elim) ?aF ?aO ?aB ?aS ?aL ?_; (case aP => exact k90_mkM _ _ _ (⟨(rd_T103 aH ax).f0, (rd_T103 aH ax).f1, fo⟩ : S90)); (case aB => exact Z49); (case aF => exact (fun _ _ => trivial)); (case aO => exact Z50); (case aS => exact (below_size (Z49))); (case aL => exact Z182 pI); intro He GN ho hb hg hat; rw [← zY.out] at ho; refine k4_ (Kd.R_over' (Z64) (Kd.R_typed (Z67)) (by decide) hg) (blk_grown (g := aD) (o := .cells #[.int .i64 ((rd_T103 aH ax).f0), .int .i64 ((rd_T103 aH ax).f1)] 103 (0, 0)) (Z42) hg (Kd.R_ne bh.out bn.out (by decide))) (hb) (ho) ?_; clear br bn HB bh; intro br bn HB z4; clear ho hb hg hat))
    go_roundg k1
    case measure => have := HK1.out; omega
    case rel => exact ⟨(Hd), (wrap64 (ax + 1)), (Z41), H', ⟨Z182 HK1⟩, ⟨Z2 z4⟩, ⟨Z47 br⟩, ⟨Z49⟩⟩
   rw [if_neg c10] at H
   have ga : decide (ax < (aH.length : Int)) = false := decide_eq_false c10
   clear c10
   obtain ⟨⟨u1, pJ⟩, Jc, H⟩ := bd_ H
   replace H : (some (u1, pJ)) = some (r1, r2) := H
   simp only [Option.some.injEq, Prod.mk.injEq] at H
   obtain ⟨rfl, rfl⟩ := H
   obtain ⟨Ao45, co45, eo45⟩ := Kd.R_slice bh.out
   subst eo45
   go_wp2_with (go_at_call 101; (with_reducible refine (impl_sheetOf.calls k1 _ _ aY u1 pJ _ ?_ ?_ Jc.out).mono ?_); exact (Z7 bh); exact (Kd.R_reads' bh.out).2.1; rintro e B9 ⟨Hg, rfl, ho0, hb⟩; refine k4_ (Yb_ bh) (Ya_ br) (Kd.R_lower (Kd.R_new' ho0 (Yd_ bh)) (below_size (Z5))) (below_step (Z5) hb) ?_; clear bh br HB; intro bh br z5 HB; (try clear hb ho0))
   repeat (go_quiet (fail); try go_wp2_with (fail))
   go_ret2
   exact ⟨_, Z11, Z47 z5, Z5⟩

end Go.Proofs.Ytmnnmddfmmaohaa.PFnPunchJobs
