-- written by a program of this session: the kit's print, with outer functions of the session's own (wip/ext)
import Derived.Test.YtmnnmddfmmaohaaGreatPFnHeadx0
import Derived.Test.YtmnnmddfmmaohaaGreatPFnHeadx8
import Derived.Test.YtmnnmddfmmaohaaGreatPFnHeadx13
namespace Go.Proofs.YtmnnmddfmmaohaaGreat.PFnHead
open Go.RowKit Go.Proofs.YtmnnmddfmmaohaaGreatW.PrintWords Go.Proofs.YtmnnmddfmmaohaaGreatW.PrintLast Go.Proofs.YtmnnmddfmmaohaaGreatW.PrintMore
attribute [local go_sem] max2_int min2_int max_two min_two max_three min_three max_four min_four   -- for this text's walks alone
set_option linter.unusedVariables false
set_option linter.unusedSimpArgs false
theorem mo14_ {p : Prop} (h : p := by repeat' first | (with_reducible first | apply ih0 | apply ih0 | apply ih1 | apply ih1 | apply ih2 | apply ih2 | apply impl_AreStrokes.mono | apply impl_AreStrokes.mono | exact LeO.refl _ | exact LeO.none _ | refine LeO.ite ?_ ?_ | refine LeO.bind ?_ (fun _ => ?_)) | exact LeO.none _ | refine LeO.ite ?_ ?_ | refine LeO.bind ?_ (fun _ => ?_)) : p := h

/-- A state of type 30 at block g of W; what its slices lead to came in by w0. -/
def IsS30 (w0 W : World) (g : Nat) (f0 : Int) (f1 : Int) : Prop := W.heap[g]? = some (.cells #[.int .i64 f0, .int .i64 f1] 30 (0, 0)) ∧ w0.heap.size ≤ g
theorem IsS30.grown {w0 W : World} {g : Nat} {f0 : Int} {f1 : Int} {W1 : World} {row : Option Nat} (h : IsS30 w0 W g f0 f1) (hw : W.grownBy W1 row) (hne : some g ≠ row) : IsS30 w0 W1 g f0 f1 := by
 obtain ⟨hb, hg⟩ := h
 exact ⟨blk_grown hb hw hne, hg⟩
theorem IsS30.own_neN {w0 W : World} {g : Nat} {f0 : Int} {f1 : Int} {α : Type} {d : Kd α} {e : Nat} {base : Nat} {ok : Nat → Prop} {v : Value} {xs : List α} (h : IsS30 w0 W g f0 f1) (ho : Kd.N d e W base ok v xs) (ht : e ≠ 30) : some g ≠ v.ownBlock := by
 obtain ⟨hb, hg⟩ := h
 exact Kd.N_ne ho hb ht
theorem IsS30.fresh {w0 W : World} {g : Nat} {f0 : Int} {f1 : Int} (h : IsS30 w0 W g f0 f1) : ∀ k, W.heap.size ≤ k → k ≠ g := by
 obtain ⟨hb, hg⟩ := h
 exact Kd.freshB hb
theorem IsS30.kept {w0 W : World} {g : Nat} {f0 : Int} {f1 : Int} {W1 : World} {S : Nat → Prop} (h : IsS30 w0 W g f0 f1) (hk : Kept W W1 S) (hne : ¬ S g) : IsS30 w0 W1 g f0 f1 := by
 obtain ⟨hb, hg⟩ := h
 exact ⟨blk_kept hb hk hne, hg⟩
theorem IsS30.below {w0 W : World} {g : Nat} {f0 : Int} {f1 : Int} {W1 : World} (h : IsS30 w0 W g f0 f1) (hw : Below W.heap.size W W1) : IsS30 w0 W1 g f0 f1 := h.grown (grown_of_below hw none) (by simp)
theorem IsS30.alloc {w0 W : World} {g : Nat} {f0 : Int} {f1 : Int} (h : IsS30 w0 W g f0 f1) (o : Obj) : IsS30 w0 (W.alloc o) g f0 f1 := h.below (below_alloc (Below.refl _ _) o)
theorem IsS30.drewN {w0 W : World} {g : Nat} {f0 : Int} {f1 : Int} (h : IsS30 w0 W g f0 f1) (m : Nat) : IsS30 w0 (W.drewN m) g f0 f1 := h
theorem IsS30.drew {w0 W : World} {g : Nat} {f0 : Int} {f1 : Int} (h : IsS30 w0 W g f0 f1) : IsS30 w0 W.drew g f0 f1 := h
theorem IsS30.at_ {w0 W : World} {g : Nat} {f0 : Int} {f1 : Int} {w' : World} {m : Nat} (hq : W.drewN m = w') (h : IsS30 w0 W g f0 f1) : IsS30 w0 w' g f0 f1 := by subst hq; exact IsS30.drewN h m
theorem IsS30.apart {w0 W : World} {g : Nat} {f0 : Int} {f1 : Int} {α : Type} {d : Kd α} {e : Nat} {base : Nat} {ok : Nat → Prop} {v : Value} {xs : List α} (h : IsS30 w0 W g f0 f1) (ho : d.R e W base ok v xs) (ht : ∀ q, q ∈ e :: d.E → q ≠ 30) : d.R e W base (fun k => ok k ∧ k ≠ g) v xs := by
 obtain ⟨hb, hg⟩ := h
 exact Kd.R_types ho hb ht
theorem IsS30.own_ne {w0 W : World} {g : Nat} {f0 : Int} {f1 : Int} {α : Type} {d : Kd α} {e : Nat} {base : Nat} {ok : Nat → Prop} {v : Value} {xs : List α} (h : IsS30 w0 W g f0 f1) (ho : d.R e W base ok v xs) (ht : e ≠ 30) : some g ≠ v.ownBlock := by
 obtain ⟨hb, hg⟩ := h
 exact Kd.R_ne ho hb ht
theorem IsS30.apartQ {w0 W : World} {g : Nat} {f0 : Int} {f1 : Int} {α : Type} {d : Kd α} {e : Nat} {base : Nat} {ok : Nat → Prop} {v : Value} {xs : List α} (h : IsS30 w0 W g f0 f1) (ho : d.Q e W base ok v xs) (ht : ∀ q, q ∈ e :: d.E → q ≠ 30) : d.Q e W base (fun k => ok k ∧ k ≠ g) v xs := by
 obtain ⟨hb, hg⟩ := h
 exact Kd.Q_types ho hb ht
theorem IsS30.own_neQ {w0 W : World} {g : Nat} {f0 : Int} {f1 : Int} {α : Type} {d : Kd α} {e : Nat} {base : Nat} {ok : Nat → Prop} {v : Value} {xs : List α} (h : IsS30 w0 W g f0 f1) (ho : d.Q e W base ok v xs) (ht : e ≠ 30) : some g ≠ v.ownBlock := by
 obtain ⟨hb, hg⟩ := h
 exact Kd.Q_ne ho hb ht
theorem IsS30.apartS {w0 W : World} {g : Nat} {f0 : Int} {f1 : Int} {α : Type} {d : Kd α} {e : Nat} {base : Nat} {ok : Nat → Prop} {v : Value} {xs : List α} (h : IsS30 w0 W g f0 f1) (ho : d.S e W base ok v xs) (ht : ∀ q, q ∈ e :: d.E → q ≠ 30) : d.S e W base (fun k => ok k ∧ k ≠ g) v xs := by
 obtain ⟨hb, hg⟩ := h
 exact Kd.S_types ho hb ht
theorem IsS30.own_neS {w0 W : World} {g : Nat} {f0 : Int} {f1 : Int} {α : Type} {d : Kd α} {e : Nat} {base : Nat} {ok : Nat → Prop} {v : Value} {xs : List α} (h : IsS30 w0 W g f0 f1) (ho : d.S e W base ok v xs) (ht : e ≠ 30) : some g ≠ v.ownBlock := by
 obtain ⟨hb, hg⟩ := h
 exact Kd.S_ne ho hb ht
theorem IsS30.lt {w0 W : World} {g : Nat} {f0 : Int} {f1 : Int} (h : IsS30 w0 W g f0 f1) : g < W.heap.size := by
 obtain ⟨hb, hg⟩ := h
 exact blk_lt hb
theorem IsS30.ge {w0 W : World} {g : Nat} {f0 : Int} {f1 : Int} (h : IsS30 w0 W g f0 f1) : w0.heap.size ≤ g := by
 obtain ⟨hb, hg⟩ := h
 exact hg
theorem IsS30.ne_blk {w0 W : World} {g : Nat} {f0 : Int} {f1 : Int} {a : Nat} {cs : Array Value} {t : TypeId} {fr : Nat × Nat} (h : IsS30 w0 W g f0 f1) (hb2 : W.heap[a]? = some (.cells cs t fr)) (ht : t ≠ 30) : g ≠ a := by
 obtain ⟨hb, hg⟩ := h
 rintro rfl
 rw [hb] at hb2
 injection hb2 with hb2
 injection hb2 with _ ht2
 exact ht ht2.symm
theorem IsS30.far {w0 W : World} {g : Nat} {f0 : Int} {f1 : Int} {p : Addr} (h : IsS30 w0 W g f0 f1) (hne : g ≠ p.block) (u : Value) : IsS30 w0 (W.setCell p u) g f0 f1 := by
 obtain ⟨hb, hg⟩ := h
 exact ⟨blk_far hb hne u, hg⟩
theorem cellS30_0 {W : World} {g : Nat} {f0 : Int} {f1 : Int} (h : W.heap[g]? = some (.cells #[.int .i64 f0, .int .i64 f1] 30 (0, 0))) : W.cell? ⟨g, 0, none⟩ = some (.int .i64 f0) := (blk_cell h 0).trans rfl
theorem IsS30.set_0 {w0 W : World} {g : Nat} {f0 : Int} {f1 : Int} (h : IsS30 w0 W g f0 f1) (x : Int) : IsS30 w0 (W.setCell ⟨g, 0, none⟩ (.int .i64 x)) g x f1 := by
 obtain ⟨hb, hg⟩ := h
 exact ⟨by simpa using blk_set hb 0 (.int .i64 x), hg⟩
theorem cellS30_1 {W : World} {g : Nat} {f0 : Int} {f1 : Int} (h : W.heap[g]? = some (.cells #[.int .i64 f0, .int .i64 f1] 30 (0, 0))) : W.cell? ⟨g, 1, none⟩ = some (.int .i64 f1) := (blk_cell h 1).trans rfl
theorem IsS30.set_1 {w0 W : World} {g : Nat} {f0 : Int} {f1 : Int} (h : IsS30 w0 W g f0 f1) (x : Int) : IsS30 w0 (W.setCell ⟨g, 1, none⟩ (.int .i64 x)) g f0 x := by
 obtain ⟨hb, hg⟩ := h
 exact ⟨by simpa using blk_set hb 1 (.int .i64 x), hg⟩
theorem IsS30.new (w0 W : World) (f0 : Int) (f1 : Int) (hB : Below w0.heap.size w0 W) : IsS30 w0 (W.alloc (.cells #[.int .i64 f0, .int .i64 f1] 30)) W.heap.size f0 f1 := ⟨by simpa using heap_alloc_new W _, hB.size⟩
/-! ### impl_RowOrder: function 18: by this session -/
instance impl_RowOrder_inh : Inhabited S30 := ⟨z30⟩
def impl_rowLt (n : Int) (a b : S30) : Bool := if (Int.tmod n 2) = 0 then decide (a.f0 < b.f0) else decide (a.f0 > b.f0)
theorem impl_rowLt.swo (n : Int) : Go.Sort.SWO (impl_rowLt n) := by
 unfold impl_rowLt
 by_cases hn : (Int.tmod n 2) = 0
 ·simp only [if_pos hn]
  constructor
  ·intro x; exact decide_eq_false (by omega)
  ·intro x y z h1 h2; have := of_decide_eq_true h1; have := of_decide_eq_true h2; exact decide_eq_true (by omega)
  intro x y z h1 h2; have := of_decide_eq_false h1; have := of_decide_eq_false h2; exact decide_eq_false (by omega)
 simp only [if_neg hn]
 constructor
 ·intro x; exact decide_eq_false (by omega)
 ·intro x y z h1 h2; have := of_decide_eq_true h1; have := of_decide_eq_true h2; exact decide_eq_true (by omega)
 intro x y z h1 h2; have := of_decide_eq_false h1; have := of_decide_eq_false h2; exact decide_eq_false (by omega)
/-- The row in order, where two that come before neither of them are the same. -/
def impl_sortRow.f (n : Int) (l : List S30) : Option (List S30) := if l.length ≤ 8796093022208 ∧ ∀ a ∈ l, ∀ b ∈ l, impl_rowLt n a b = false → impl_rowLt n b a = false → a.f0 = b.f0 ∧ a.f1 = b.f1 then some (l.mergeSort (fun a b => !impl_rowLt n b a)) else none
theorem impl_sortRow.uniq {n : Int} {l r ys : List S30} (h : impl_sortRow.f n l = some r) (hp : ys.Perm l) (hs : ys.Pairwise (fun a b => impl_rowLt n b a = false)) : ys = r := by
 unfold impl_sortRow.f at h
 split at h
 ·rename_i hc
  obtain rfl := Option.some.inj h
  have hO := impl_rowLt.swo n
  have hm := List.mergeSort_perm l (fun a b => !impl_rowLt n b a)
  have hq : (l.mergeSort (fun a b => !impl_rowLt n b a)).Pairwise (fun a b => impl_rowLt n b a = false) := by
   have := List.pairwise_mergeSort (le := fun a b => !impl_rowLt n b a) (by
    intro a b c h1 h2
    simp only [Bool.not_eq_true'] at *
    exact hO.ntrans c b a h2 h1) (by
    intro a b
    simp only [Bool.or_eq_true, Bool.not_eq_true']
    by_cases h : impl_rowLt n b a = true
    ·right
     cases h2 : impl_rowLt n a b with
     | false => rfl
     | true => have := hO.trans a b a h2 h; rw [hO.irrefl] at this; cases this
    left; exact Bool.eq_false_iff.2 h) l
   exact this.imp (fun h => by simpa using h)
  refine order_unique (fun a b => impl_rowLt n b a = false) ys _ (hp.trans hm.symm) hs hq (fun a ha b hb h1 h2 => ?_)
  have := hc.2 a (hp.mem_iff.1 ha) b (hp.mem_iff.1 hb) h2 h1
  obtain ⟨a0, a1⟩ := a
  obtain ⟨b0, b1⟩ := b
  simp only at this
  obtain ⟨rfl, rfl⟩ := this
  rfl
 cases h
theorem impl_sortRow.short {n : Int} {l r : List S30} (h : impl_sortRow.f n l = some r) : l.length < 1152921504606846976 := by
 unfold impl_sortRow.f at h
 split at h
 ·omega
 cases h
theorem impl_RowOrder_1.lt (n : Int) (i j : Nat) (l : List S30) (hi : i < l.length) (hj : j < l.length) : impl_RowOrder_1.f i j n l = some (impl_rowLt n l[i]! l[j]!) := by
 have e1 : rd_T30 l (i : Int) = l[i]! := by unfold rd_T30; rw [Int.toNat_natCast, List.getD_eq_getElem?_getD, List.getElem?_eq_getElem hi, getElem!_pos l i hi]; rfl
 have e2 : rd_T30 l (j : Int) = l[j]! := by unfold rd_T30; rw [Int.toNat_natCast, List.getD_eq_getElem?_getD, List.getElem?_eq_getElem hj, getElem!_pos l j hj]; rfl
 unfold impl_RowOrder_1.f impl_rowLt
 by_cases hn : (Int.tmod n 2) = 0
 ·rw [if_pos hn, if_pos hn, if_pos (by omega), if_pos (by omega), if_pos (by omega), if_pos (by omega), e1, e2]
 rw [if_neg hn, if_neg hn, if_pos (by omega), if_pos (by omega), if_pos (by omega), if_pos (by omega), e1, e2]
noncomputable def impl_RowOrder.ie : TypeInfo := (Tryz.prog.info? 30).get (by kernel_rfl)
noncomputable def impl_RowOrder.it : TypeInfo := (Tryz.prog.info? 24).get (by kernel_rfl)
set_option maxHeartbeats 2000000 in
/-- sort.SliceStable with this closure, at a row of the call's own that a boxed variable holds. -/
theorem impl_RowOrder.sorts (n : Int) (xs zs : List S30) (A : Option Addr) (c : Nat) (gI gR base : Nat) (ok : Nat → Prop) (W : World) (hz : impl_sortRow.f n xs = some zs) (hR : Kd.R k30 30 W base ok (.slice A xs.length c) xs) (hkI : ∀ k, ok k → k ≠ gI) (hkR : ∀ k, ok k → k ≠ gR) (hne : gI ≠ gR)
  (hbI : W.heap[gI]? = some (.cells #[.int .i64 n] 3 (0, 0))) (hbx : W.heap[gR]? = some (.cells #[.slice A xs.length c] 24 (0, 0))) :
  Calls Tryz.prog 37 #[.iface 24 (.slice A xs.length c), .func (.func 38) #[] #[.pointer (some ⟨gI, 0, none⟩), .pointer (some ⟨gR, 0, none⟩)]] W fun e' w' => e' = .returned (.tuple #[]) ∧
   xs.length = zs.length ∧ Kd.R k30 30 w' base ok (.slice A zs.length c) zs ∧ w'.heap[gI]? = some (.cells #[.int .i64 n] 3 (0, 0)) ∧ w'.heap[gR]? = some (.cells #[.slice A zs.length c] 24 (0, 0)) ∧ W.grownBy w' (Value.ownBlock (.slice A xs.length c)) := by
 have hgI : gI < W.heap.size := (Array.getElem?_eq_some_iff.1 hbI).1
 have hgb : gR < W.heap.size := (Array.getElem?_eq_some_iff.1 hbx).1
 have hnI : some gI ≠ Value.ownBlock (.slice A xs.length c) := fun e => hkI gI (hR.1 gI e.symm) rfl
 have hnR : some gR ≠ Value.ownBlock (.slice A xs.length c) := fun e => hkR gR (hR.1 gR e.symm) rfl
 have hK : ∀ n, Lib.swapperK n impl_RowOrder.ie 25 = if n = 0 then 1 else if n = 1 then 2 else 9 := by
  intro n
  have a : impl_RowOrder.ie.hasPointers = false := by kernel_rfl
  have b : impl_RowOrder.ie.bytes = 16 := by kernel_rfl
  rcases Nat.lt_or_ge n 2 with h | h
  ·rcases Nat.eq_zero_or_pos n with h0 | h0
   ·subst h0; simp [Lib.swapperK]
   obtain rfl : n = 1 := by omega
   simp [Lib.swapperK]
  have c : (n == 0) = false := by simp; omega
  have d : (n == 1) = false := by simp; omega
  rw [if_neg (by omega), if_neg (by omega)]
  simp [Lib.swapperK, a, b, c, d]
 have hf : ∀ n, Tryz.prog.funcs.findIdx? (·.name == "internal/reflectlite" ++ ".Swapper$" ++ toString (Lib.swapperK n impl_RowOrder.ie 25)) = some (if n = 0 then 64 else if n = 1 then 65 else 72) := by
  intro n
  rw [hK]
  by_cases h0 : n = 0
  ·rw [if_pos h0, if_pos h0]; kernel_rfl
  rw [if_neg h0, if_neg h0]
  by_cases h1 : n = 1
  ·rw [if_pos h1, if_pos h1]; kernel_rfl
  rw [if_neg h1, if_neg h1]; kernel_rfl
 refine (sort_rows Tryz.laysGt8 24 30 impl_RowOrder.it impl_RowOrder.ie (by kernel_rfl) (by kernel_rfl) (by kernel_rfl) (by kernel_rfl) 25 (fun _ => by kernel_rfl) k30 (fun x => [.int .i64 x.f0, .int .i64 x.f1]) (fun w base ok x cs => by show k30.M w base ok x cs ↔ _; exact ⟨k30_openM, fun h => h ▸ k30_mkM _ _ _ _⟩) (fun _ => rfl) (by kernel_rfl) (fun _ => by kernel_rfl) (impl_rowLt n) (impl_rowLt.swo n) 38 #[.pointer (some ⟨gI, 0, none⟩), .pointer (some ⟨gR, 0, none⟩)]
  (enters_of Tryz.func38 (by kernel_rfl) rfl) false _ hf (fun n h2 args W => by
   rw [if_neg (by omega), if_neg (by omega)]
   exact run_callFunc_extern Tryz.func72 (by kernel_rfl) (by kernel_rfl) (by kernel_rfl) (e := Extern.ReflectliteSwapper.swap false) (by kernel_rfl) args W) A c xs base ok W (impl_sortRow.short hz) hR ?_).mono ?_
 ·intro W' ys hl hC hg i j hi hj
  have hbI' : W'.heap[gI]? = some (.cells #[.int .i64 n] 3 (0, 0)) := by rw [hg.block gI hgI hnI, hbI]
  have hb' : W'.heap[gR]? = some (.cells #[.slice A ys.length c] 24 (0, 0)) := by rw [hg.block gR hgb hnR, hbx, hl]
  have hc : xs.length ≤ c := (Kd.R_reads' hR).2.1
  have := impl_RowOrder_1.calls i j gI n gR A c ys (impl_rowLt n ys[i]! ys[j]!) W' (by rw [hl]; exact hC) (by omega) hbI' hb' hne (Ne.symm hne) (impl_RowOrder_1.lt n i j ys (by omega) (by omega))
  exact this.mono fun e w h => ⟨h.1, h.2.below⟩
 rintro e' w' ⟨he, ys, hp, hs, ho, hg⟩
 obtain rfl := impl_sortRow.uniq hz hp hs
 have hl := hp.length_eq
 rw [← hl] at ho
 exact ⟨he, hl.symm, ho, by rw [hg.block gI hgI hnI, hbI], by rw [hg.block gR hgb hnR, hbx, hl], hg⟩
mutual
def impl_RowOrder.l0 : Nat → List (S30) → List Int → List (S30) → Int → Int → Option ((List (S30)) × Bool)
 | 0, _, _, _, _, _ => none
 | k + 1, x0, x4, x17, x18, x19 => if x19 < x18 then (if 0 ≤ x19 then (if x19 < (x17.length : Int) then (if x4.length < 17592186044416 then (impl_RowOrder.l0 k x0 (x4 ++ [(rd_T30 x17 x19).f1]) x17 x18 (wrap64 (x19 + 1))) else (none)) else (none)) else (none)) else ((impl_sortedSet.f x4).bind fun bX => (impl_RowOrder.l1 k x0 (([] : List (S30))) bX (bX.length : Int) 0))
def impl_RowOrder.l1 : Nat → List (S30) → List (S30) → List Int → Int → Int → Option ((List (S30)) × Bool)
 | 0, _, _, _, _, _ => none
 | k + 1, x0, x7, x32, x33, x34 => if x34 < x33 then (if 0 ≤ x34 then (if x34 < (x32.length : Int) then (impl_RowOrder.l2 k x0 x7 x34 (rd x32 x34) (([] : List (S30))) x32 x33 x34 x0 (x0.length : Int) 0) else (none)) else (none)) else (some (x7, true))
def impl_RowOrder.l2 : Nat → List (S30) → List (S30) → Int → Int → List (S30) → List Int → Int → Int → List (S30) → Int → Int → Option ((List (S30)) × Bool)
 | 0, _, _, _, _, _, _, _, _, _, _, _ => none
 | k + 1, x0, x7, x8, x9, x10, x32, x33, x34, x40, x41, x42 => if x42 < x41 then (if 0 ≤ x42 then (if x42 < (x40.length : Int) then (if ((rd_T30 x40 x42).f1) = x9 then (if x10.length < 8796093022208 then (impl_RowOrder.l2 k x0 x7 x8 x9 (x10 ++ [(⟨(rd_T30 x40 x42).f0, (rd_T30 x40 x42).f1⟩ : S30)]) x32 x33 x34 x40 x41 (wrap64 (x42 + 1))) else (none)) else (impl_RowOrder.l2 k x0 x7 x8 x9 x10 x32 x33 x34 x40 x41 (wrap64 (x42 + 1)))) else (none)) else (none)) else ((impl_sortRow.f x8 x10).bind fun iu => (if x7.length + iu.length < 8796093022208 then (impl_RowOrder.l1 k x0 (x7 ++ iu) x32 x33 (wrap64 (x34 + 1))) else (none)))
end
def impl_RowOrder.f (k : Nat) (l0 : List (S30)) : Option ((List (S30)) × Bool) := (impl_AreStrokes.f k l0).bind fun tq => (if tq = true then (impl_RowOrder.l0 k l0 (([] : List Int)) l0 (l0.length : Int) 0) else (some (([] : List (S30)), false)))
theorem impl_RowOrder.mono_l : ∀ k, (∀ y0 y1 y2 y3 y4, LeO (impl_RowOrder.l0 k y0 y1 y2 y3 y4) (impl_RowOrder.l0 (k + 1) y0 y1 y2 y3 y4)) ∧ (∀ y0 y1 y2 y3 y4, LeO (impl_RowOrder.l1 k y0 y1 y2 y3 y4) (impl_RowOrder.l1 (k + 1) y0 y1 y2 y3 y4)) ∧ (∀ y0 y1 y2 y3 y4 y5 y6 y7 y8 y9 tr, LeO (impl_RowOrder.l2 k y0 y1 y2 y3 y4 y5 y6 y7 y8 y9 tr) (impl_RowOrder.l2 (k + 1) y0 y1 y2 y3 y4 y5 y6 y7 y8 y9 tr))
 | 0 => ⟨fun _ _ _ _ _ r h => by simp [impl_RowOrder.l0] at h, fun _ _ _ _ _ r h => by simp [impl_RowOrder.l1] at h, fun _ _ _ _ _ _ _ _ _ _ _ r h => by simp [impl_RowOrder.l2] at h⟩
 | k + 1 => by
  obtain ⟨ih0, ih1, ih2⟩ := impl_RowOrder.mono_l k
  refine ⟨?_, ?_, ?_⟩
  ·intro y0 y1 y2 y3 y4
   unfold impl_RowOrder.l0
   exact mo14_
  ·intro y0 y1 y2 y3 y4
   unfold impl_RowOrder.l1
   exact mo14_
  intro y0 y1 y2 y3 y4 y5 y6 y7 y8 y9 tr
  unfold impl_RowOrder.l2
  exact mo14_
theorem impl_RowOrder.mono : ∀ a0 k, LeO (impl_RowOrder.f k a0) (impl_RowOrder.f (k + 1) a0) := by
 intro a0 k
 obtain ⟨ih0, ih1, ih2⟩ := impl_RowOrder.mono_l k
 unfold impl_RowOrder.f
 exact mo14_
set_option maxHeartbeats 8000000 in
set_option maxRecDepth 100000 in
theorem impl_RowOrder.calls (k : Nat) (A0 : Option Addr) (c0 : Nat) (l0 : List (S30)) (r1 : List (S30)) (r2 : Bool) (w : World) (hr0 : Kd.C k30 w A0 l0.length l0) (hc0 : l0.length ≤ c0) (h : impl_RowOrder.f k l0 = some (r1, r2)) :
  Calls Tryz.prog 18 #[.slice A0 l0.length c0] w fun e w' => ∃ v0_ : Value, e = .returned (.tuple #[v0_, .bool r2]) ∧ Kd.R k30 30 w' w.heap.size (fun _ => True) v0_ r1 ∧ Below w.heap.size w w' := by
 have hu30 := Tryz.underlying30
 have HR0 := Aside0.mk hr0
 have HC0 := Aside0.mk hc0
 clear hr0 hc0
 have HB := Aside0.mk (Below.refl w.heap.size w)
 have H : ((impl_AreStrokes.f k l0).bind fun tq => (if tq = true then (impl_RowOrder.l0 k l0 (([] : List Int)) l0 (l0.length : Int) 0) else (some (([] : List (S30)), false)))) = some (r1, r2) := h
 clear h
 replace H := Option.bind_eq_some_iff.mp H
 obtain ⟨tq, cK, H⟩ := H
 (try dsimp only at H)
 have A2 := Aside0.mk cK
 clear cK
 by_cases c3 : tq = true
 ·subst c3
  rw [if_pos rfl] at H
  obtain ⟨Bc, nC⟩ : ∃ y_ : List Int, y_ = (([] : List Int)) := ⟨_, rfl⟩
  replace H : (impl_RowOrder.l0 k l0 Bc l0 (l0.length : Int) 0) = some (r1, r2) := by first | (rw [nC]; with_reducible exact H) | (have H2_ := (Option.bind_some _ _).symm.trans H; rw [nC]; with_reducible exact H2_) | (have H2_ := (Option.bind_some _ _).symm.trans H; with_reducible exact H2_) | with_reducible exact H | (rw [nC]; exact H) | exact H
  have xa := Aside0.mk nC
  clear nC
  have H' := Aside0.mk H
  clear H
  go_enter Tryz.func18, Tryz.ntmps18
  go_wp2_with (first | ((with_reducible refine gate_callee (f := 24) rfl ?_); refine gl_ 14 Tryz.func24 #[.slice A0 l0.length c0] ?_; (with_reducible refine (impl_AreStrokes.calls k _ _ l0 true _ ?_ ?_ A2.out).mono ?_); exact (Z18 HR0); exact HC0.out; rintro e w4 ⟨rfl, hb⟩; refine ⟨_, rfl, ?_⟩; refine k1_ (below_step (Z2) hb) ?_; clear HB; intro HB; (try clear hb)) | ((with_reducible refine gate_dst (N := 16) rfl ?_); refine Kd.R_lit (Kd.int .i64) _ 3 ?hg (N := 16) ?hd (xs := ([] : List Int)) (inner := []) (ok := fun _ => True) (okp := fun _ => True) ?hr ?hp (fun _ hk => hk) trivial (Below.refl _ _) (Nat.le_refl _) (by simp) ?_; (case hd => rfl); (case hg => rfl); (case hr => exact Z29); (case hp => exact (Reps.none _ _)); intro v205 w5 ho6 hb hg_ hnew_; clear hg_ hnew_; (first | rw [← xa.out] at ho6 | (simp only [Int.reduceToNat] at ho6; rw [← xa.out] at ho6)); refine k2_ (Kd.R_lower ho6 (below_size (Z2))) (below_step (Z2) hb) ?_; clear HB; intro HO206 HB; clear hb ho6))
  (try simp only [Act.put, List.setIfInBounds_toArray, List.set_cons_zero, List.set_cons_succ])
  go_loopg [4, 19] k (fun kq v4 Dx w' => ∃ (aw : List Int) (cB : Int), Dx = .int .i64 cB ∧ Aside0 (impl_RowOrder.l0 kq l0 aw l0 (l0.length : Int) cB = some (r1, r2)) ∧ Aside0 (kq ≤ k) ∧ Aside0 (Kd.R (Kd.int .i64) 3 w' w.heap.size (fun _ => True) v4 aw) ∧ Aside0 (Below w.heap.size w w'))
  case atStart => exact ⟨(Bc), (0), (Z16), H', ⟨Nat.le_refl _⟩, ⟨Z1 HO206⟩, ⟨Z2⟩⟩
  case round =>
   clear H'
   (try clear c2); (try clear p2); (try clear c3)
   obtain ⟨aw, cB, rfl, HA, HK1, aj, HB⟩ := hrel
   cases gk with
   | zero => exact absurd HA.out (by simp [impl_RowOrder.l0])
   | succ k1 =>
    have H := HA.out
    clear HA
    simp only [impl_RowOrder.l0] at H
    by_cases c7 : cB < (l0.length : Int)
    ·rw [if_pos c7] at H
     have gX : decide (cB < (l0.length : Int)) = true := decide_eq_true c7
     clear c7
     by_cases c8 : 0 ≤ cB
     ·rw [if_pos c8] at H
      have g7 : decide (0 ≤ cB) = true := decide_eq_true c8
      clear c8
      by_cases c9 : cB < (l0.length : Int)
      ·rw [if_pos c9] at H
       have iX : decide (cB < (l0.length : Int)) = true := decide_eq_true c9
       clear c9
       by_cases c10 : aw.length < 17592186044416
       ·rw [if_pos c10] at H
        have LMc10 := Aside0.mk c10
        clear c10
        obtain ⟨Bd, nD⟩ : ∃ y_ : List Int, y_ = (aw ++ [(rd_T30 l0 cB).f1]) := ⟨_, rfl⟩
        replace H : (impl_RowOrder.l0 k1 l0 Bd l0 (l0.length : Int) (wrap64 (cB + 1))) = some (r1, r2) := by first | (rw [nD]; with_reducible exact H) | (have H2_ := (Option.bind_some _ _).symm.trans H; rw [nD]; with_reducible exact H2_) | (have H2_ := (Option.bind_some _ _).symm.trans H; with_reducible exact H2_) | with_reducible exact H | (rw [nD]; exact H) | exact H
        have Ny209 := Aside0.mk nD
        clear nD
        have H' := Aside0.mk H
        clear H
        have vG : 0 ≤ (cB : Int) := of_decide_eq_true (Z4)
        have vH : cB < (l0.length : Int) := of_decide_eq_true (Z4)
        obtain ⟨ad207, e207, jd, je⟩ := at_T30 HR0.out cB vG vH
        cases e207
        replace jd := (HB.out.cell (World.block_lt_of_cell? w _ jd)).trans jd
        replace je := (HB.out.cell (World.block_lt_of_cell? w _ je)).trans je
        replace vG := eq_true vG
        replace vH := eq_true vH
        go_wp2_with (first | ((with_reducible refine gate_dst (N := 6) rfl ?_); refine bv_ 6 30 #[.int .i64 0, .int .i64 0] ?_; intro nE hg lA hbox hb; refine k5_ (Ya_ aj) (below_step (Z2) hb) (hbox) ((Z38 : w.heap.size ≤ nE)) ((Z38 : w.heap.size ≤ nE)) ?_; clear aj HB; intro aj HB lP GW208 GE208; clear hb hbox hg; obtain ⟨jb, mE, jc, mF⟩ := bx2_ (w := lA) lP.out) | ((with_reducible refine gate_builtin (b := .append) (xs := #[.tmp 23, .tmp 26]) rfl ?_); at_builtin; refine Kd.R_append (Kd.int .i64) (w0 := w) w.heap.size rfl (.tmp 23) (.tmp 26) 34 3 (.int .i64 0) 8 rfl Tryz.underlying34 info3 rfl (by decide) (by omega) u4 aw ((rd_T30 l0 cB).f1) [.int .i64 ((rd_T30 l0 cB).f1)] (fun _ => True) (fun _ => False) rfl (Z29) ?aP (fun _ hk => hk.elim) ?aF ?aO ?aB ?aS ?aL ?_; (case aP => exact rfl); (case aB => exact Z110); (case aF => exact (fun _ _ => trivial)); (case aO => exact (by (with_reducible repeat (first | apply Kd.R_alloc | apply Kd.R_drewN | apply Kd.R_drew)); exact Kd.R_mono (Kd.R_far (p := ⟨nE, 1, none⟩) (Kd.R_far (p := ⟨nE, 0, none⟩) (Kd.R_types aj.out lP.out (by decide)) (fun _ hk => hk.2) (.int .i64 ((rd_T30 l0 cB).f0))) (fun _ hk => hk.2) (.int .i64 ((rd_T30 l0 cB).f1))) (fun _ hk => trivial))); (case aS => exact (below_size (Z110))); (case aL => exact Z76 LMc10); intro v210 m8 ho hb hg hat; rw [← Ny209.out] at ho; refine k3_ (blk_grown (g := nE) (o := .cells #[.int .i64 ((rd_T30 l0 cB).f0), .int .i64 ((rd_T30 l0 cB).f1)] 30 (0, 0)) (by (with_reducible repeat (first | refine blk_drewN ?_ _ | refine blk_drew ?_ | refine blk_alloc ?_ _)); refine blk_put (cs := #[.int .i64 ((rd_T30 l0 cB).f0), .int .i64 0]) ?_ 1 _ rfl; (with_reducible repeat (first | refine blk_drewN ?_ _ | refine blk_drew ?_ | refine blk_alloc ?_ _)); refine blk_put (cs := #[.int .i64 0, .int .i64 0]) ?_ 0 _ rfl; (with_reducible repeat (first | refine blk_drewN ?_ _ | refine blk_drew ?_ | refine blk_alloc ?_ _)); exact lP.out) hg (Kd.R_ne aj.out lP.out (by decide))) (hb) (ho) ?_; clear lP HB aj; intro lP HB tt; clear ho hb hg hat))
        go_roundg k1
        case measure => have := HK1.out; omega
        case rel => exact ⟨(Bd), (wrap64 (cB + 1)), (Z16), H', ⟨Z76 HK1⟩, ⟨Z1 tt⟩, ⟨Z110⟩⟩
       rw [if_neg c10] at H
       exact absurd H (by simp)
      rw [if_neg c9] at H
      exact absurd H (by simp)
     rw [if_neg c8] at H
     exact absurd H (by simp)
    rw [if_neg c7] at H
    have gX : decide (cB < (l0.length : Int)) = false := decide_eq_false c7
    clear c7
    replace H := Option.bind_eq_some_iff.mp H
    obtain ⟨bX, tu, H⟩ := H
    (try dsimp only at H)
    have Dy := Aside0.mk tu
    clear tu
    obtain ⟨Be, nF⟩ : ∃ y_ : List (S30), y_ = (([] : List (S30))) := ⟨_, rfl⟩
    replace H : (impl_RowOrder.l1 k1 l0 Be bX (bX.length : Int) 0) = some (r1, r2) := by first | (rw [nF]; with_reducible exact H) | (have H2_ := (Option.bind_some _ _).symm.trans H; rw [nF]; with_reducible exact H2_) | (have H2_ := (Option.bind_some _ _).symm.trans H; with_reducible exact H2_) | with_reducible exact H | (rw [nF]; exact H) | exact H
    have xb := Aside0.mk nF
    clear nF
    have H' := Aside0.mk H
    clear H
    obtain ⟨nG, jG, lD⟩ := Kd.R_slice aj.out
    subst lD
    go_wp2_with (first | ((with_reducible refine gate_callee (f := 36) rfl ?_); refine gl_ 30 Tryz.func36 #[.slice nG aw.length jG] ?_; (with_reducible refine (impl_sortedSet.calls _ _ aw bX _ ?_ ?_ Dy.out).mono ?_); exact (Z5 aj); exact (Kd.R_reads' aj.out).2.1; rintro e pw ⟨v213, rfl, ho0, hb⟩; refine ⟨_, rfl, ?_⟩; refine k3_ (Yb_ aj) (Kd.R_lower (Kd.R_new' ho0 (Yd_ aj)) (below_size (Z2))) (below_step (Z2) hb) ?_; clear aj HB; intro aj nH HB; (try clear hb ho0)) | ((with_reducible refine gate_dst (N := 31) rfl ?_); refine Kd.R_lit k30 _ 30 ?hg (N := 31) ?hd (xs := ([] : List (S30))) (inner := []) (ok := fun _ => True) (okp := fun _ => True) ?hr ?hp (fun _ hk => hk) trivial (Below.refl _ _) (Nat.le_refl _) (by simp) ?_; (case hd => rfl); (case hg => rfl); (case hr => exact Z29); (case hp => exact (Reps.none _ _)); intro v216 vC ho18 hb hg_ hnew_; clear hg_ hnew_; (first | rw [← xb.out] at ho18 | (simp only [Int.reduceToNat] at ho18; rw [← xb.out] at ho18)); refine k4_ (Ya_ aj) (Ya_ nH) (Kd.R_lower ho18 (below_size (Z2))) (below_step (Z2) hb) ?_; clear aj nH HB; intro aj nH HO217 HB; clear hb ho18; obtain ⟨tv, lE, tw⟩ := Kd.R_slice nH.out; subst tw))
    (try simp only [Act.put, List.setIfInBounds_toArray, List.set_cons_zero, List.set_cons_succ])
    go_loopg [7, 34] k1 (fun kq v7 Dr w' => ∃ (ai : List (S30)) (bx : Int), Dr = .int .i64 bx ∧ Aside0 (impl_RowOrder.l1 kq l0 ai bX (bX.length : Int) bx = some (r1, r2)) ∧ Aside0 (kq ≤ k1) ∧ Aside0 (Kd.R k30 30 w' w.heap.size (fun _ => True) v7 ai) ∧ Aside0 (Kd.R (Kd.int .i64) 3 w' w.heap.size (fun _ => True) (.slice tv bX.length lE) bX) ∧ Aside0 (Below w.heap.size w w'))
    case atStart => exact ⟨(Be), (0), (Z16), H', ⟨Nat.le_refl _⟩, ⟨Z1 HO217⟩, ⟨Z35 nH⟩, ⟨Z2⟩⟩
    case round =>
     clear H'
     (try clear c1); (try clear q2); (try clear hx2); (try clear c4); (try clear p6); (try clear c7); (try clear gX); (try clear c8); (try clear g7); (try clear c9); (try clear iX); (try clear c10); (try clear jb); (try clear mE); (try clear jc); (try clear mF); (try clear jd); (try clear je); (try clear vG); (try clear vH)
     obtain ⟨ai, bx, rfl, HA, HK2, ar, b3, HB⟩ := hrel
     cases gk with
     | zero => exact absurd HA.out (by simp [impl_RowOrder.l1])
     | succ k2 =>
      have H := HA.out
      clear HA
      simp only [impl_RowOrder.l1] at H
      by_cases c20 : bx < (bX.length : Int)
      ·rw [if_pos c20] at H
       have ea : decide (bx < (bX.length : Int)) = true := decide_eq_true c20
       clear c20
       by_cases c21 : 0 ≤ bx
       ·rw [if_pos c21] at H
        have iF : decide (0 ≤ bx) = true := decide_eq_true c21
        clear c21
        by_cases c22 : bx < (bX.length : Int)
        ·rw [if_pos c22] at H
         have m9 : decide (bx < (bX.length : Int)) = true := decide_eq_true c22
         clear c22
         obtain ⟨pT, nI⟩ : ∃ y_ : List (S30), y_ = (([] : List (S30))) := ⟨_, rfl⟩
         replace H : (impl_RowOrder.l2 k2 l0 ai bx (rd bX bx) pT bX (bX.length : Int) bx l0 (l0.length : Int) 0) = some (r1, r2) := by first | (rw [nI]; with_reducible exact H) | (have H2_ := (Option.bind_some _ _).symm.trans H; rw [nI]; with_reducible exact H2_) | (have H2_ := (Option.bind_some _ _).symm.trans H; with_reducible exact H2_) | with_reducible exact H | (rw [nI]; exact H) | exact H
         have xc := Aside0.mk nI
         clear nI
         have H' := Aside0.mk H
         clear H
         have vI : 0 ≤ (bx : Int) := of_decide_eq_true (Z4)
         have vJ : bx < (bX.length : Int) := of_decide_eq_true (Z4)
         obtain ⟨ad218, e218, hx218_0⟩ := Kd.at_int (Kd.R_reads' b3.out).2.2 bx vI vJ
         cases e218
         replace vI := eq_true vI
         replace vJ := eq_true vJ
         go_wp2_with (first | ((with_reducible refine gate_dst (N := 8) rfl ?_); refine bv_ 8 3 #[.int .i64 0] ?_; intro gI hg wI hbox hb; have n0_ := Aside0.mk (Kd.R_below (Kd.R_elderB (Z1 ar) gI (Nat.le_of_eq hg.symm)) hb); have n1_ := Aside0.mk (Kd.R_below (Kd.R_elderB (Z1 b3) gI (Nat.le_of_eq hg.symm)) hb); have n2_ := Aside0.mk (below_step (Z2) hb); have n3_ := Aside0.mk (hbox); have n4_ := Aside0.mk ((Z38 : w.heap.size ≤ gI)); (try clear ar); (try clear b3); (try clear HB); (try clear BKI); (try clear GEI); have ar := n0_; have b3 := n1_; have HB := n2_; have BKI := n3_; have GEI := n4_; clear n0_ n1_ n2_ n3_ n4_; clear hb hbox hg; have hcI : wI.cell? ⟨gI, 0, none⟩ = some (.int .i64 0) := (blk_cell BKI.out 0).trans rfl; have hfI := blk_frozen BKI.out 0) | ((with_reducible refine gate_dst (N := 39) rfl ?_); refine Kd.R_lit k30 _ 30 ?hg (N := 39) ?hd (xs := ([] : List (S30))) (inner := []) (ok := fun _ => True) (okp := fun _ => True) ?hr ?hp (fun _ hk => hk) trivial (Below.refl _ _) (Nat.le_refl _) (by simp) ?_; (case hd => rfl); (case hg => rfl); (case hr => exact Z29); (case hp => exact (Reps.none _ _)); intro v220 AC ho24 hb hg_ hnew_; clear hg_ hnew_; (first | rw [← xc.out] at ho24 | (simp only [Int.reduceToNat] at ho24; rw [← xc.out] at ho24)); have b_ := blk_put (cs := #[.int .i64 0]) (cs' := #[.int .i64 bx]) BKI.out 0 (.int .i64 bx) rfl; have n0_ := Aside0.mk (Kd.R_elder' (Z114 ar) (Kd.R_base ho24) hb); have n1_ := Aside0.mk (Kd.R_below (Z114 b3) hb); have n2_ := Aside0.mk (Kd.R_lower (Kd.R_newB (Kd.R_new' ho24 (Kd.R_lt (Z114 ar))) b_) (below_size (Z139))); have n3_ := Aside0.mk (blk_below b_ hb); have n4_ := Aside0.mk (below_step (Z139) hb); (try clear ar); (try clear b3); (try clear lQ); (try clear BKI); (try clear HB); have ar := n0_; have b3 := n1_; have lQ := n2_; have BKI := n3_; have HB := n4_; clear n0_ n1_ n2_ n3_ n4_; clear hb ho24 b_; (try clear hcI hfI); obtain ⟨AoL, coL, eoL⟩ := Kd.R_slice lQ.out; subst eoL) | ((with_reducible refine gate_dst (N := 10) rfl ?_); refine bv_ 10 24 #[.slice none 0 0] ?_; intro gR hg wR hbox hb; have n0_ := Aside0.mk (Kd.R_below (Kd.R_elderB (Z1 ar) gR (Nat.le_of_eq hg.symm)) hb); have n1_ := Aside0.mk (Kd.R_below (Kd.R_elderB (Z1 b3) gR (Nat.le_of_eq hg.symm)) hb); have n2_ := Aside0.mk (Kd.R_below (Kd.R_elderB (Z1 lQ) gR (Nat.le_of_eq hg.symm)) hb); have n3_ := Aside0.mk ((Z130 : gI ≠ gR)); have n4_ := Aside0.mk ((Z38 : w.heap.size ≤ gR)); have n5_ := Aside0.mk (Ye_ BKI); have n6_ := Aside0.mk (below_step (Z2) hb); have n7_ := Aside0.mk (hbox); (try clear ar); (try clear b3); (try clear lQ); (try clear NIR); (try clear GER); (try clear BKI); (try clear HB); (try clear BKR); have ar := n0_; have b3 := n1_; have lQ := n2_; have NIR := n3_; have GER := n4_; have BKI := n5_; have HB := n6_; have BKR := n7_; clear n0_ n1_ n2_ n3_ n4_ n5_ n6_ n7_; clear hb hbox hg; have hcR : wR.cell? ⟨gR, 0, none⟩ = some (.slice none 0 0) := (blk_cell BKR.out 0).trans rfl; have hfR := blk_frozen BKR.out 0))
         (try simp only [Act.put, List.setIfInBounds_toArray, List.set_cons_zero, List.set_cons_succ])
         go_loopg [42] k2 (fun kq Dz w' => ∃ (vK : Value) (ax : List (S30)) (bq : Int), Dz = .int .i64 bq ∧ Aside0 (impl_RowOrder.l2 kq l0 ai bx (rd bX bx) ax bX (bX.length : Int) bx l0 (l0.length : Int) bq = some (r1, r2)) ∧ Aside0 (kq ≤ k2) ∧ Aside0 (Kd.R k30 30 w' w.heap.size (fun k_ => (some k_ ≠ (vK : Value).ownBlock ∧ k_ ≠ gI) ∧ k_ ≠ gR) u7 ai) ∧ Aside0 (Kd.R k30 30 w' w.heap.size (fun k_ => (some k_ ≠ (u7 : Value).ownBlock ∧ k_ ≠ gI) ∧ k_ ≠ gR) vK ax) ∧ Aside0 (Kd.R (Kd.int .i64) 3 w' w.heap.size (fun k_ => k_ ≠ gI) (.slice (some ad218) bX.length lE) bX) ∧ Aside0 (w'.heap[gI]? = some (.cells #[.int .i64 bx] 3 (0, 0))) ∧ Aside0 (w'.heap[gR]? = some (.cells #[vK] 24 (0, 0))) ∧ Aside0 (Below w.heap.size w w'))
         case atStart => exact ⟨(.slice AoL pT.length coL), (pT), (0), (Z16), H', ⟨Nat.le_refl _⟩, ⟨by (with_reducible repeat (first | apply Kd.R_alloc | apply Kd.R_drewN | apply Kd.R_drew)); exact Kd.R_mono (Kd.R_far (p := ⟨gR, 0, none⟩) ar.out (fun _ hk => hk.2) (.slice AoL pT.length coL)) (fun _ hk => ⟨⟨hk.1.2, hk.1.1.2⟩, hk.2⟩)⟩, ⟨by (with_reducible repeat (first | apply Kd.R_alloc | apply Kd.R_drewN | apply Kd.R_drew)); exact Kd.R_mono (Kd.R_far (p := ⟨gR, 0, none⟩) lQ.out (fun _ hk => hk.2) (.slice AoL pT.length coL)) (fun _ hk => ⟨⟨hk.1.1.2, hk.1.2⟩, hk.2⟩)⟩, ⟨by (with_reducible repeat (first | apply Kd.R_alloc | apply Kd.R_drewN | apply Kd.R_drew)); exact Kd.R_mono (Kd.R_far (p := ⟨gR, 0, none⟩) b3.out (fun _ hk => hk.2) (.slice AoL pT.length coL)) (fun _ hk => hk.1.2)⟩, ⟨Z141⟩, ⟨by (with_reducible repeat (first | refine blk_drewN ?_ _ | refine blk_drew ?_ | refine blk_alloc ?_ _)); exact blk_put (cs := #[.slice none 0 0]) BKR.out 0 (.slice AoL pT.length coL) rfl⟩, ⟨Z80⟩⟩
         case round =>
          clear H'
          (try clear c20); (try clear ea); (try clear p20); (try clear q20); (try clear hx20); (try clear c21); (try clear iF); (try clear wV); (try clear wW); (try clear hx21); (try clear c22); (try clear m9); (try clear hx218_0); (try clear vI); (try clear vJ); (try clear hcI); (try clear hfI); (try clear hcR); (try clear hfR)
          obtain ⟨u10, ax, bq, rfl, HA, HK3, ar, cQ, b3, BKI, BKR, HB⟩ := hrel
          cases gk with
          | zero => exact absurd HA.out (by simp [impl_RowOrder.l2])
          | succ k3 =>
           have H := HA.out
           clear HA
           simp only [impl_RowOrder.l2] at H
           by_cases c25 : bq < (l0.length : Int)
           ·rw [if_pos c25] at H
            have wN : decide (bq < (l0.length : Int)) = true := decide_eq_true c25
            clear c25
            by_cases c26 : 0 ≤ bq
            ·rw [if_pos c26] at H
             have xd : decide (0 ≤ bq) = true := decide_eq_true c26
             clear c26
             by_cases c27 : bq < (l0.length : Int)
             ·rw [if_pos c27] at H
              have ek : decide (bq < (l0.length : Int)) = true := decide_eq_true c27
              clear c27
              by_cases c28 : ((rd_T30 l0 bq).f1) = (rd bX bx)
              ·rw [if_pos c28] at H
               have tx : (((rd_T30 l0 bq).f1) == (rd bX bx)) = true := beq_iff_eq.mpr c28
               have c28b1 : (((rd_T30 l0 bq).f1) != (rd bX bx)) = false := bne_eq_false_iff_eq.mpr c28
               clear c28
               by_cases c29 : ax.length < 8796093022208
               ·rw [if_pos c29] at H
                have LMc29 := Aside0.mk c29
                clear c29
                obtain ⟨pU, nJ⟩ : ∃ y_ : List (S30), y_ = (ax ++ [(⟨(rd_T30 l0 bq).f0, (rd_T30 l0 bq).f1⟩ : S30)]) := ⟨_, rfl⟩
                replace H : (impl_RowOrder.l2 k3 l0 ai bx (rd bX bx) pU bX (bX.length : Int) bx l0 (l0.length : Int) (wrap64 (bq + 1))) = some (r1, r2) := by first | (rw [nJ]; with_reducible exact H) | (have H2_ := (Option.bind_some _ _).symm.trans H; rw [nJ]; with_reducible exact H2_) | (have H2_ := (Option.bind_some _ _).symm.trans H; with_reducible exact H2_) | with_reducible exact H | (rw [nJ]; exact H) | exact H
                have Ny224 := Aside0.mk nJ
                clear nJ
                have H' := Aside0.mk H
                clear H
                have pV : 0 ≤ (bq : Int) := of_decide_eq_true (Z4)
                have pW : bq < (l0.length : Int) := of_decide_eq_true (Z4)
                obtain ⟨ad222, e222, fx, fy⟩ := at_T30 HR0.out bq pV pW
                cases e222
                replace fx := (HB.out.cell (World.block_lt_of_cell? w _ fx)).trans fx
                replace fy := (HB.out.cell (World.block_lt_of_cell? w _ fy)).trans fy
                replace pV := eq_true pV
                replace pW := eq_true pW
                go_wp2_with (first | ((with_reducible refine gate_dst (N := 12) rfl ?_); refine bv_ 12 30 #[.int .i64 0, .int .i64 0] ?_; intro cM hg pq hbox hb; have n0_ := Aside0.mk (Kd.R_below (Kd.R_elderB (Z1 ar) cM (Nat.le_of_eq hg.symm)) hb); have n1_ := Aside0.mk (Kd.R_below (Kd.R_elderB (Z1 cQ) cM (Nat.le_of_eq hg.symm)) hb); have n2_ := Aside0.mk (Kd.R_below (Kd.R_elderB (Z1 b3) cM (Nat.le_of_eq hg.symm)) hb); have n3_ := Aside0.mk ((Z130 : gI ≠ cM)); have n4_ := Aside0.mk ((by rw [hg]; exact Nat.ne_of_lt (blk_lt (g := gR) (o := .cells #[u10] 24 (0, 0)) (Z6 BKR)) : gR ≠ cM)); have n5_ := Aside0.mk ((Z129 : w.heap.size ≤ cM)); have n6_ := Aside0.mk (Ye_ BKI); have n7_ := Aside0.mk (Ye_ BKR); have n8_ := Aside0.mk (below_step (Z80) hb); have n9_ := Aside0.mk (hbox); (try clear ar); (try clear cQ); (try clear b3); (try clear NIX); (try clear NRX); (try clear qF); (try clear BKI); (try clear BKR); (try clear HB); (try clear lR); have ar := n0_; have cQ := n1_; have b3 := n2_; have NIX := n3_; have NRX := n4_; have qF := n5_; have BKI := n6_; have BKR := n7_; have HB := n8_; have lR := n9_; clear n0_ n1_ n2_ n3_ n4_ n5_ n6_ n7_ n8_ n9_; clear hb hbox hg; have hnb1 := NRX.out; have hnc1 := Ne.symm NRX.out; have hnb2 := NIX.out; have hnc2 := Ne.symm NIX.out; have hcR : pq.cell? ⟨gR, 0, none⟩ = some (u10) := (blk_cell BKR.out 0).trans rfl; have hfR := blk_frozen BKR.out 0; obtain ⟨hcz31_0, hcz31_1, hfz31_0, hfz31_1⟩ := bx2_ (w := pq) lR.out) | ((with_reducible refine gate_builtin (b := .append) (xs := #[.tmp 50, .tmp 52]) rfl ?_); at_builtin; refine Kd.R_append k30 (w0 := w) w.heap.size rfl (.tmp 50) (.tmp 52) 24 30 (.agg #[(.int .i64 0), (.int .i64 0)]) 16 rfl Tryz.underlying24 info30 rfl (by decide) (by omega) u10 ax (⟨(rd_T30 l0 bq).f0, (rd_T30 l0 bq).f1⟩ : S30) [.int .i64 ((rd_T30 l0 bq).f0), .int .i64 ((rd_T30 l0 bq).f1)] (fun k_ => (((some k_ ≠ (u7 : Value).ownBlock ∧ k_ ≠ gI) ∧ k_ ≠ gR) ∧ k_ ≠ cM)) (fun _ => False) rfl (Z29) ?aP (fun _ hk => hk.elim) ?aF ?aO ?aB ?aS ?aL ?_; (case aP => exact k30_mkM _ _ _ (⟨(rd_T30 l0 bq).f0, (rd_T30 l0 bq).f1⟩ : S30)); (case aB => exact Z95); (case aF => exact (fun k_ hk => ⟨⟨⟨Kd.fresh' (Kd.R_lt (Z64 ar)) k_ hk, Kd.freshB (g := gI) (o := .cells #[.int .i64 bx] 3 (0, 0)) (Z89) k_ hk⟩, Kd.freshB (g := gR) (o := .cells #[u10] 24 (0, 0)) (Z90) k_ hk⟩, Kd.freshB (g := cM) (o := .cells #[.int .i64 ((rd_T30 l0 bq).f0), .int .i64 ((rd_T30 l0 bq).f1)] 30 (0, 0)) (by (with_reducible repeat (first | refine blk_drewN ?_ _ | refine blk_drew ?_ | refine blk_alloc ?_ _)); refine blk_put (cs := #[.int .i64 ((rd_T30 l0 bq).f0), .int .i64 0]) ?_ 1 _ rfl; (with_reducible repeat (first | refine blk_drewN ?_ _ | refine blk_drew ?_ | refine blk_alloc ?_ _)); refine blk_put (cs := #[.int .i64 0, .int .i64 0]) ?_ 0 _ rfl; (with_reducible repeat (first | refine blk_drewN ?_ _ | refine blk_drew ?_ | refine blk_alloc ?_ _)); exact lR.out) k_ hk⟩)); (case aO => exact (Z64 cQ)); (case aS => exact (below_size (Z95))); (case aL => exact Z76 LMc29); intro v225 sw ho hb hg hat; rw [← Ny224.out] at ho; have n0_ := Aside0.mk (Kd.R_after (ok := (fun k_ => (k_ ≠ gI ∧ k_ ≠ gR) ∧ k_ ≠ cM)) (by (with_reducible repeat (first | apply Kd.R_alloc | apply Kd.R_drewN | apply Kd.R_drew)); exact Kd.R_mono (Kd.R_far (p := ⟨cM, 1, none⟩) (Kd.R_far (p := ⟨cM, 0, none⟩) ar.out (fun _ hk => hk.2) (.int .i64 ((rd_T30 l0 bq).f0))) (fun _ hk => hk.2) (.int .i64 ((rd_T30 l0 bq).f1))) (fun _ hk => ⟨⟨⟨hk.1.1.2, hk.1.2⟩, hk.2⟩, hk.1.1.1⟩)) hg hat); have n1_ := Aside0.mk (Kd.R_over' (Z64 b3) (Kd.R_typed (Z64 cQ)) (by decide) hg); have n2_ := Aside0.mk (blk_grown (g := gI) (o := .cells #[.int .i64 bx] 3 (0, 0)) (Z89) hg (Kd.R_away cQ.out (fun _ hk => hk.1.1.2))); have n3_ := Aside0.mk (blk_grown (g := gR) (o := .cells #[u10] 24 (0, 0)) (Z90) hg (Kd.R_away cQ.out (fun _ hk => hk.1.2))); have n4_ := Aside0.mk (hb); have n5_ := Aside0.mk (ho); (try clear ar); (try clear b3); (try clear BKI); (try clear BKR); (try clear HB); (try clear cQ); have ar := n0_; have b3 := n1_; have BKI := n2_; have BKR := n3_; have HB := n4_; have cQ := n5_; clear n0_ n1_ n2_ n3_ n4_ n5_; clear ho hb hg hat; (try clear hcR hfR); have hcR : sw.cell? ⟨gR, 0, none⟩ = some (u10) := (blk_cell BKR.out 0).trans rfl; have hfR := blk_frozen BKR.out 0; obtain ⟨AoN, coN, eoN⟩ := Kd.R_slice cQ.out; subst eoN))
                go_roundg k3
                case measure => have := HK1.out; have := HK2.out; have := HK3.out; omega
                case rel => exact ⟨(.slice AoN pU.length coN), (pU), (wrap64 (bq + 1)), (Z16), H', ⟨Z81⟩, ⟨by (with_reducible repeat (first | apply Kd.R_alloc | apply Kd.R_drewN | apply Kd.R_drew)); exact Kd.R_mono (Kd.R_far (p := ⟨gR, 0, none⟩) ar.out (fun _ hk => hk.1.1.2) (.slice AoN pU.length coN)) (fun _ hk => ⟨⟨hk.2, hk.1.1.1⟩, hk.1.1.2⟩)⟩, ⟨by (with_reducible repeat (first | apply Kd.R_alloc | apply Kd.R_drewN | apply Kd.R_drew)); exact Kd.R_mono (Kd.R_far (p := ⟨gR, 0, none⟩) cQ.out (fun _ hk => hk.1.2) (.slice AoN pU.length coN)) (fun _ hk => hk.1)⟩, ⟨by (with_reducible repeat (first | apply Kd.R_alloc | apply Kd.R_drewN | apply Kd.R_drew)); exact Kd.R_mono (Kd.R_far (p := ⟨gR, 0, none⟩) (Kd.R_types b3.out BKR.out (by decide)) (fun _ hk => hk.2) (.slice AoN pU.length coN)) (fun _ hk => hk.1.1)⟩, ⟨Z141⟩, ⟨by (with_reducible repeat (first | refine blk_drewN ?_ _ | refine blk_drew ?_ | refine blk_alloc ?_ _)); exact blk_put (cs := #[u10]) BKR.out 0 (.slice AoN pU.length coN) rfl⟩, ⟨Z80⟩⟩
               rw [if_neg c29] at H
               exact absurd H (by simp)
              rw [if_neg c28] at H
              have tx : (((rd_T30 l0 bq).f1) == (rd bX bx)) = false := beq_eq_false_iff_ne.mpr c28
              have c28b1 : (((rd_T30 l0 bq).f1) != (rd bX bx)) = true := bne_iff_ne.mpr c28
              have H' := Aside0.mk H
              clear H
              have pV : 0 ≤ (bq : Int) := of_decide_eq_true (Z4)
              have pW : bq < (l0.length : Int) := of_decide_eq_true (Z4)
              obtain ⟨ad222, e222, fx, fy⟩ := at_T30 HR0.out bq pV pW
              cases e222
              replace fx := (HB.out.cell (World.block_lt_of_cell? w _ fx)).trans fx
              replace fy := (HB.out.cell (World.block_lt_of_cell? w _ fy)).trans fy
              replace pV := eq_true pV
              replace pW := eq_true pW
              go_wp2_with (first | ((with_reducible refine gate_dst (N := 12) rfl ?_); refine bv_ 12 30 #[.int .i64 0, .int .i64 0] ?_; intro cM hg ir hbox hb; have n0_ := Aside0.mk (Kd.R_below (Kd.R_elderB (Z1 ar) cM (Nat.le_of_eq hg.symm)) hb); have n1_ := Aside0.mk (Kd.R_below (Kd.R_elderB (Z1 cQ) cM (Nat.le_of_eq hg.symm)) hb); have n2_ := Aside0.mk (Kd.R_below (Kd.R_elderB (Z1 b3) cM (Nat.le_of_eq hg.symm)) hb); have n3_ := Aside0.mk ((Z130 : gI ≠ cM)); have n4_ := Aside0.mk ((by rw [hg]; exact Nat.ne_of_lt (blk_lt (g := gR) (o := .cells #[u10] 24 (0, 0)) (Z6 BKR)) : gR ≠ cM)); have n5_ := Aside0.mk ((Z129 : w.heap.size ≤ cM)); have n6_ := Aside0.mk (Ye_ BKI); have n7_ := Aside0.mk (Ye_ BKR); have n8_ := Aside0.mk (below_step (Z80) hb); have n9_ := Aside0.mk (hbox); (try clear ar); (try clear cQ); (try clear b3); (try clear NIX); (try clear NRX); (try clear qF); (try clear BKI); (try clear BKR); (try clear HB); (try clear lR); have ar := n0_; have cQ := n1_; have b3 := n2_; have NIX := n3_; have NRX := n4_; have qF := n5_; have BKI := n6_; have BKR := n7_; have HB := n8_; have lR := n9_; clear n0_ n1_ n2_ n3_ n4_ n5_ n6_ n7_ n8_ n9_; clear hb hbox hg; have hnb1 := NRX.out; have hnc1 := Ne.symm NRX.out; have hnb2 := NIX.out; have hnc2 := Ne.symm NIX.out; have hcR : ir.cell? ⟨gR, 0, none⟩ = some (u10) := (blk_cell BKR.out 0).trans rfl; have hfR := blk_frozen BKR.out 0; obtain ⟨hcz34_0, hcz34_1, hfz34_0, hfz34_1⟩ := bx2_ (w := ir) lR.out))
              go_roundg k3
              case measure => have := HK1.out; have := HK2.out; have := HK3.out; omega
              case rel => exact ⟨u10, (ax), (wrap64 (bq + 1)), (Z16), H', ⟨Z81⟩, ⟨Z72 ar⟩, ⟨Z72 cQ⟩, ⟨Z72 b3⟩, ⟨Z89⟩, ⟨Z90⟩, ⟨Z95⟩⟩
             rw [if_neg c27] at H
             exact absurd H (by simp)
            rw [if_neg c26] at H
            exact absurd H (by simp)
           rw [if_neg c25] at H
           have wN : decide (bq < (l0.length : Int)) = false := decide_eq_false c25
           clear c25
           replace H := Option.bind_eq_some_iff.mp H
           obtain ⟨iu, tz, H⟩ := H
           (try dsimp only at H)
           have Dc := Aside0.mk tz
           clear tz
           by_cases c36 : ai.length + iu.length < 8796093022208
           ·rw [if_pos c36] at H
            have LMc36 := Aside0.mk c36
            clear c36
            obtain ⟨Bf, nK⟩ : ∃ y_ : List (S30), y_ = (ai ++ iu) := ⟨_, rfl⟩
            replace H : (impl_RowOrder.l1 k3 l0 Bf bX (bX.length : Int) (wrap64 (bx + 1))) = some (r1, r2) := by first | (rw [nK]; with_reducible exact H) | (have H2_ := (Option.bind_some _ _).symm.trans H; rw [nK]; with_reducible exact H2_) | (have H2_ := (Option.bind_some _ _).symm.trans H; with_reducible exact H2_) | with_reducible exact H | (rw [nK]; exact H) | exact H
            have Ny230 := Aside0.mk nK
            clear nK
            have H' := Aside0.mk H
            clear H
            obtain ⟨fz, fA, vL⟩ := Kd.R_slice cQ.out
            subst vL
            have hcR := (blk_cell BKR.out 0).trans (rfl : (#[.slice fz ax.length fA] : Array Value)[0]? = some (.slice fz ax.length fA))
            have hfR := blk_frozen BKR.out 0
            go_wp2_with (first | ((with_reducible refine gate_callee (f := 37) rfl ?_); refine goesL_ (some 58) rfl rfl Tryz.func37 (by kernel_rfl) rfl #[.iface 24 (.slice fz ax.length fA), .func (.func 38) #[] #[.pointer (some ⟨gI, 0, none⟩), .pointer (some ⟨gR, 0, none⟩)]] rfl (Z124) ?_; refine (impl_RowOrder.sorts bx ax iu fz fA gI gR w.heap.size (fun k_ => (some k_ ≠ (u7 : Value).ownBlock ∧ k_ ≠ gI) ∧ k_ ≠ gR) _ Dc.out (Z1 cQ) (fun _ hk => hk.1.2) (fun _ hk => hk.2) NIR.out (Z6 BKI) (Z6 BKR)).mono ?_; rintro e wT ⟨rfl, hln, ho, hbI, hbx, hg⟩; refine ⟨_, rfl, ?_⟩; have hB_ := (Z2); have n0_ := Aside0.mk (Kd.R_after (ok := (fun k_ => k_ ≠ gI ∧ k_ ≠ gR)) (v1 := .slice fz iu.length fA) (by (with_reducible repeat (first | apply Kd.R_alloc | apply Kd.R_drewN | apply Kd.R_drew)); exact Kd.R_mono ar.out (fun _ hk => ⟨⟨hk.1.2, hk.2⟩, hk.1.1⟩)) hg (.inl (by rw [hln]))); have n1_ := Aside0.mk (Kd.R_over' (Z1 b3) (Kd.R_typed (Z1 cQ)) (by decide) hg); have n2_ := Aside0.mk (hB_.grown hg hB_.size (fun k_ hk_ => Kd.R_base cQ.out k_ hk_)); have n3_ := Aside0.mk (hbx); have n4_ := Aside0.mk (ho); have ar := n0_; have b3 := n1_; have HB := n2_; have BKR := n3_; have cQ := n4_; clear n0_ n1_ n2_ n3_ n4_; clear ho hbI hbx hg hB_; (try clear hcR hfR); have hcR : wT.cell? ⟨gR, 0, none⟩ = some (.slice fz iu.length fA) := (blk_cell BKR.out 0).trans rfl; have hfR := blk_frozen BKR.out 0) | ((with_reducible refine gate_builtin (b := .append) (xs := #[.tmp 59, .tmp 60]) rfl ?_); at_builtin; refine Kd.R_append_rows k30 (w0 := w) w.heap.size rfl (.tmp 59) (.tmp 60) 24 30 (.agg #[(.int .i64 0), (.int .i64 0)]) 16 rfl Tryz.underlying24 info30 rfl (by decide) (by omega) u7 ai iu _ _ _ (fun _ => True) (fun _ => False) rfl rfl ?aO ?aR (fun _ _ h => h) (fun _ h => h.elim) ?aF ?aB ?aS ?aL ?_; (case aR => exact Z5 cQ); (case aB => exact Z2); (case aF => exact (fun _ _ => trivial)); (case aO => exact (by (with_reducible repeat (first | apply Kd.R_alloc | apply Kd.R_drewN | apply Kd.R_drew)); exact Kd.R_mono ar.out (fun _ _ => trivial))); (case aS => exact (below_size (Z2))); (case aL => exact Z76 LMc36); intro v231 Bg ho hb hg hat; rw [← Ny230.out] at ho; have n0_ := Aside0.mk (Kd.R_over' (Z1 b3) (Kd.R_typed (Z1 ar)) (by decide) hg); have n1_ := Aside0.mk (hb); have n2_ := Aside0.mk (ho); have b3 := n0_; have HB := n1_; have HO232 := n2_; clear n0_ n1_ n2_; clear ho hb hg hat))
            go_roundg k3
            case measure => have := HK1.out; have := HK2.out; have := HK3.out; omega
            case rel => exact ⟨(Bf), (wrap64 (bx + 1)), (Z16), H', ⟨Z81⟩, ⟨Z35 HO232⟩, ⟨by (with_reducible repeat (first | apply Kd.R_alloc | apply Kd.R_drewN | apply Kd.R_drew)); exact Kd.R_mono b3.out (fun _ _ => trivial)⟩, ⟨Z2⟩⟩
           rw [if_neg c36] at H
           exact absurd H (by simp)
        rw [if_neg c22] at H
        exact absurd H (by simp)
       rw [if_neg c21] at H
       exact absurd H (by simp)
      rw [if_neg c20] at H
      have ea : decide (bx < (bX.length : Int)) = false := decide_eq_false c20
      clear c20
      simp only [Option.some.injEq, Prod.mk.injEq] at H
      obtain ⟨rfl, rfl⟩ := H
      go_wp2
      go_ret2
      exact ⟨_, Z12, Z1 ar, Z2⟩
 replace c3 := Bool.eq_false_iff.mpr c3
 subst c3
 rw [if_neg (show ¬ (false = true) by decide)] at H
 simp only [Option.some.injEq, Prod.mk.injEq] at H
 obtain ⟨rfl, rfl⟩ := H
 go_enter Tryz.func18, Tryz.ntmps18
 go_wp2_with (first | ((with_reducible refine gate_callee (f := 24) rfl ?_); refine gl_ 14 Tryz.func24 #[.slice A0 l0.length c0] ?_; (with_reducible refine (impl_AreStrokes.calls k _ _ l0 false _ ?_ ?_ A2.out).mono ?_); exact (Z18 HR0); exact HC0.out; rintro e vB ⟨rfl, hb⟩; refine ⟨_, rfl, ?_⟩; refine k1_ (below_step (Z2) hb) ?_; clear HB; intro HB; (try clear hb)))
 go_ret2
 exact ⟨_, Z12, Z37, Z2⟩

end Go.Proofs.YtmnnmddfmmaohaaGreat.PFnHead
