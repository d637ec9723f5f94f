import Derived.Test.YtcpliaahkcbinaaGreatDoorVFnStrokes
import Derived.Test.YtcpliaahkcbinaaGreatDoorStA
set_option linter.unusedVariables false
set_option linter.unusedSimpArgs false
namespace Go.Proofs
open Go.Shelf Go.RowKit Go.Lib Go.Sort Go.Proofs.YtcpliaahkcbinaaGreatDoorW.PrintWords
variable {P : Program} {ρ : Ren} {α : Type} [Inhabited α]
theorem dR_ {α : Type} (R : α → α → Prop) : ∀ (L M : List α), L.Perm M → L.Pairwise R → M.Pairwise R → (∀ a ∈ L, ∀ b ∈ L, R a b → R b a → a = b) → L = M
 | [], M, hp, _, _, _ => (List.Perm.nil_eq hp)
 | a :: L, [], hp, _, _, _ => by have := hp.length_eq; simp at this
 | a :: L, b :: M, hp, hL, hM, hu => by
  rw [List.pairwise_cons] at hL hM
  have e : a = b := by
   rcases List.mem_cons.1 (hp.mem_iff.1 (List.mem_cons_self (a := a))) with h | h
   ·exact h
   ·rcases List.mem_cons.1 (hp.mem_iff.2 (List.mem_cons_self (a := b))) with g | g
    ·exact g.symm
    ·exact hu a List.mem_cons_self b (List.mem_cons_of_mem _ g) (hL.1 b g) (hM.1 a h)
  subst e
  rw [dR_ R L M ((List.perm_cons a).1 hp) hL.2 hM.2 (fun x hx y hy => hu x (List.mem_cons_of_mem _ hx) y (List.mem_cons_of_mem _ hy))]
theorem l2_ (enc : α → List Value) (k : Nat) (d : Array α) (j : Nat) (hj : j < d.size) (c : Nat) (hc : c < k) : (flatK enc k d)[j * k + c]! = (enc d[j]!)[c]! := by
 have lt : j * k + c < d.size * k := by
  have := Nat.mul_le_mul_right k (show j + 1 ≤ d.size from hj); rw [Nat.add_mul, Nat.one_mul] at this; omega
 have e1 : (j * k + c) / k = j := (blk_iff k j _ (by omega)).1 ⟨by omega, by omega⟩
 have e2 : (j * k + c) % k = c := by rw [Nat.mod_eq_sub_div_mul, e1]; omega
 rw [get_flatK _ _ _ _ lt, e1, e2]
theorem mo_ (enc : α → List Value) (k : Nat) (hk : ∀ x, (enc x).length = k) (d : Array α) : aH_ (fun x cs => cs = enc x) k d.toList (flatK enc k d).toList := by
 refine ⟨by simp, fun j p hp => ?_⟩
 have hj : j < d.size := by have := (List.getElem?_eq_some_iff.1 hp).1; simpa using this
 have hp' : d[j]! = p := by
  have := (List.getElem?_eq_some_iff.1 hp).2
  rw [getElem!_pos d j hj]; simpa using this
 have hle : j * k + k ≤ d.size * k := by
  have := Nat.mul_le_mul_right k (show j + 1 ≤ d.size from hj); rwa [Nat.add_mul, Nat.one_mul] at this
 refine List.ext_getElem (by simp [hk]; omega) fun c h1 h2 => ?_
 have hc : c < k := by rw [hk] at h2; exact h2
 have := l2_ enc k d j hj c hc
 rw [hp', getElem!_pos _ _ (by simp; omega), getElem!_pos (enc p) c h2] at this
 simpa using this
theorem i2_ (enc : α → List Value) (k : Nat) (hk : ∀ x, (enc x).length = k) (xs : List α) (inner : List Value) (h : aH_ (fun x cs => cs = enc x) k xs inner) : inner = (flatK enc k xs.toArray).toList := by
 obtain ⟨hl, hr⟩ := h
 refine List.ext_getElem (by simp [hl]) fun t h1 h2 => ?_
 have ht : t < xs.length * k := by rw [← hl]; exact h1
 have k0 : 0 < k := by
  rcases Nat.eq_zero_or_pos k with h | h
  ·subst h; simp at ht
  ·exact h
 have hj : t / k < xs.length := by rw [Nat.div_lt_iff_lt_mul k0]; exact ht
 have e := hr (t / k) _ (List.getElem?_eq_getElem hj)
 have hm : t / k * k + t % k = t := Nat.div_add_mod' t k
 have hc : t % k < k := Nat.mod_lt _ k0
 have e3 := congrArg (fun l => l[t % k]?) e
 simp only [List.getElem?_take, List.getElem?_drop, if_pos hc, hm] at e3
 rw [List.getElem?_eq_getElem h1, List.getElem?_eq_getElem (by rw [hk]; exact hc)] at e3
 have e4 := get_flatK enc k xs.toArray t (by simpa using ht)
 have hs : (t : Nat) < (flatK enc k xs.toArray).size := by simpa using ht
 rw [getElem!_pos _ t hs, getElem!_pos xs.toArray (t / k) (by simpa using hj), getElem!_pos _ (t % k) (by rw [hk]; exact hc)] at e4
 have e5 : (flatK enc k xs.toArray).toList[t] = (flatK enc k xs.toArray)[t] := by simp
 rw [Option.some.inj e3, e5, e4]
 simp
theorem SWK.row {enc : α → List Value} {k : Nat} {w W : World} {blk off : Nat} {d : Array α} (hS : SWK enc k w blk off d W) {cur : Array Value} {e : TypeId} {fr : Nat × Nat} (h : w.heap[blk]? = some (.cells cur e fr)) :
  W.heap[blk]? = some (.cells (putCells id off (flatK enc k d) cur) e fr) := by
 rw [hS.2, h]; rfl
theorem iJ_ (d cur : Array Value) (h : d.size ≤ cur.size) : (putCells id 0 d cur).toList.take d.size = d.toList := by
 refine List.ext_getElem (by simp [putCells]; omega) fun t h1 h2 => ?_
 have ht : t < d.size := by simpa using h2
 simp only [List.getElem_take, Array.getElem_toList, putCells, Array.getElem_mapIdx]
 rw [if_pos ⟨Nat.zero_le _, by omega⟩, Nat.sub_zero, id_eq, getElem!_pos d t ht]
theorem iF_ (d cur : Array Value) : (putCells id 0 d cur).size = cur.size := by simp [putCells]
theorem kK_ {e : TypeId} {w W : World} {base : Nat} {g n c : Nat} (enc : α → List Value) (k : Nat) (d d' : Array α) (hS : SWK enc k w g 0 d' W) (hd : d'.size = d.size) (hn : d.size = n)
  (h : w.ownsRow base e k (.slice (some ⟨g, 0, none⟩) n c) n (flatK enc k d).toList) : W.ownsRow base e k (.slice (some ⟨g, 0, none⟩) n c) n (flatK enc k d').toList := by
 obtain ⟨h1, h2⟩ := h
 refine ⟨by simp [hd, hn], ?_⟩
 rcases h2 with ⟨h2, _⟩ | ⟨g', cap, cur, hv, hb, hh, hc, hm, hs, ht⟩
 ·cases h2
 ·injection hv with hv1 hv2 hv3
  injection hv1 with hv1
  injection hv1 with hv1
  subst hv1 hv3
  have hsz : (flatK enc k d').size ≤ cur.size := by
   rw [size_flatK, hd, hn, hs]; exact Nat.mul_le_mul_right _ hc
  refine Or.inr ⟨g, c, _, rfl, hb, hS.row hh, hc, hm, by rw [iF_, hs], ?_⟩
  have := iJ_ (flatK enc k d') cur hsz
  rw [size_flatK, hd, hn] at this
  exact this
theorem jJ_ {e : TypeId} {w : World} {base : Nat} {g n c : Nat} (enc : α → List Value) (k : Nat) (d : Array α) (hn : d.size = n)
  (h : w.ownsRow base e k (.slice (some ⟨g, 0, none⟩) n c) n (flatK enc k d).toList) : HoldsK enc k w g 0 d := by
 obtain ⟨h1, h2⟩ := h
 rcases h2 with ⟨h2, _⟩ | ⟨g', cap, cur, hv, hb, hh, hc, hm, hs, ht⟩
 ·cases h2
 ·injection hv with hv1 hv2 hv3
  injection hv1 with hv1
  injection hv1 with hv1
  subst hv1 hv3
  intro j hj
  have hj' : j < n * k := by rw [size_flatK, hn] at hj; exact hj
  have hsz : n * k ≤ c * k := Nat.mul_le_mul_right _ hc
  have e1 : cur[j]? = some ((flatK enc k d)[j]!) := by
   have := congrArg (fun l => l[j]?) ht
   simp only [List.getElem?_take, if_pos hj'] at this
   rw [Array.getElem?_toList, Array.getElem?_toList, Array.getElem?_eq_getElem hj] at this
   rw [this, getElem!_pos _ j hj]
  refine ⟨?_, ?_⟩
  ·rw [Nat.zero_add, id_eq]
   simp [World.cell?, hh, e1]
  ·rw [Nat.zero_add]
   simp [World.frozen?, hh]
theorem hV_ {w : World} {d : Kd α} {g n : Nat} (enc : α → List Value) (hM : ∀ w x, d.K w x (enc x)) (hk : ∀ x, (enc x).length = d.sz) (a : Array α) (hn : a.size = n) (hm : n ≤ 9223372036854775807) (h : HoldsK enc d.sz w g 0 a) : Kd.C d w (some ⟨g, 0, none⟩) n a.toList := by
 refine ⟨by simp [hn], hm, fun _ => ⟨_, rfl, fun j p hp => ⟨enc p, hk p, hM w p, fun i u hu => ?_⟩⟩⟩
 have hj : j < a.size := by have := (List.getElem?_eq_some_iff.1 hp).1; simpa using this
 have hi : i < d.sz := by have := (List.getElem?_eq_some_iff.1 hu).1; rw [hk] at this; exact this
 have hp' : a[j]! = p := by
  have := (List.getElem?_eq_some_iff.1 hp).2
  rw [getElem!_pos a j hj]; simpa using this
 have hc := (HoldsK.cell h hj hi).1
 rw [hp', getElem!_pos (enc p) i (List.getElem?_eq_some_iff.1 hu).1, (List.getElem?_eq_some_iff.1 hu).2] at hc
 rw [bO_, ← hc, Nat.zero_add]
theorem lo_ (w : World) (os : Array Obj) (row : Option Nat) : w.grownBy (Sort.grow w os) row :=
 ⟨rfl, rfl, rfl, by rw [size_grow]; omega, fun i hi _ => by unfold Sort.grow; exact Array.getElem?_append_left hi⟩
theorem kA_ {d d' : Array α} {n : Nat} (hn : d.size = n) (h : PermIn 0 n d d') : d'.size = n ∧ d'.toList.Perm d.toList := by
 obtain ⟨h1, _, h3⟩ := h
 subst hn
 have e1 : d'.extract 0 d.size = d' := by rw [← h1]; simp
 have e2 : d.extract 0 d.size = d := by simp
 rw [e1, e2] at h3
 exact ⟨h1, h3⟩
theorem hX_ {lt : α → α → Bool} {d : Array α} {n : Nat} (hn : d.size = n) (h : SortedIn lt 0 n d) : d.toList.Pairwise (fun a b => lt b a = false) := by
 rw [List.pairwise_iff_getElem]
 intro i j hi hj hij
 have := h i j (Nat.zero_le _) hij (by simpa [hn] using hj)
 rw [getElem!_pos d j (by simpa using hj), getElem!_pos d i (by simpa using hi)] at this
 simpa using this
theorem gh_ (L : LaysGt.n8 P ρ) (t e : TypeId) (i ie : TypeInfo) (hi : P.info? t = some i) (hd : i.desc = .slice e) (hpk : P.packed t = false) (hie : P.info? e = some ie) (ke : Nat) (hke : ∀ w, (Extern.Rtype.kind e).run P w = .ok ke w)
  (d : Kd α) (enc : α → List Value) (hM : ∀ w base ok x cs, d.M w base ok x cs ↔ cs = enc x) (hk : ∀ x, (enc x).length = d.sz) (hs1 : ie.size = d.sz) (hagg : ∀ w, (isAgg e).run P w = .ok true w) (lt : α → α → Bool) (hO : SWO lt) (g : Nat) (lb : Array Value)
  (eg : ∀ args w, (callFunc g args).run P w = .ok (.enter g args) w) (gS : Bool) (f : Nat → Nat) (hf : ∀ n, P.funcs.findIdx? (·.name == "internal/reflectlite" ++ ".Swapper$" ++ toString (swapperK n ie ke)) = some (f n))
  (hx : ∀ n, 2 ≤ n → ∀ args W, (callFunc (f n) args).run P W = ((Extern.ReflectliteSwapper.swap gS args).run P W).andThen fun v w' => .ok (.value v) w')
  (A : Option Addr) (c : Nat) (xs : List α) (base : Nat) (ok : Nat → Prop) (w : World) (hlen : xs.length < 1152921504606846976) (hR : Kd.R d e w base ok (.slice A xs.length c) xs)
  (hless : ∀ (W : World) (ys : List α), ys.length = xs.length → Kd.C d W A xs.length ys → w.grownBy W (Value.ownBlock (.slice A xs.length c)) → ∀ i j : Nat, i < xs.length → j < xs.length →
   Calls P g (#[.int .i64 i, .int .i64 j] ++ lb) W fun e' w' => e' = .returned (.bool (lt ys[i]! ys[j]!)) ∧ Go.RowKit.Below W.heap.size W w') :
  Calls P (ρ.f 8) #[.iface t (.slice A xs.length c), .func (.func g) #[] lb] w fun e' w' => e' = .returned (.tuple #[]) ∧
   ∃ ys : List α, ys.Perm xs ∧ ys.Pairwise (fun a b => lt b a = false) ∧ Kd.R d e w' base ok (.slice A xs.length c) ys ∧ w.grownBy w' (Value.ownBlock (.slice A xs.length c)) := by
 have hKK : ∀ w x, d.K w x (enc x) := fun w x => d.K_of_M ((hM w 0 (fun _ => True) x (enc x)).2 rfl)
 have h1 : ∀ x, ∀ v ∈ enc x, v.oneCell' = true := fun x => d.K_one (hKK default x)
 by_cases hn : xs.length ≤ 1
 ·refine (Any.sort_SliceStable_tiny L t e i ie hi hd hpk hie ke hke A xs.length c hn _ (hf _) (.func g) #[] lb w).mono ?_
  rintro e' w' ⟨rfl, os, rfl⟩
  refine ⟨rfl, xs, List.Perm.refl _, ?_, ?_, lo_ _ _ _⟩
  ·match xs, hn with
   | [], _ => exact List.Pairwise.nil
   | [x], _ => exact List.pairwise_singleton _ _
  ·exact Kd.p5_ hR ⟨rfl, rfl, rfl, by rw [size_grow]; omega, fun i hi => by unfold Sort.grow; exact Array.getElem?_append_left hi⟩
 ·have h2 : 2 ≤ xs.length := by omega
  obtain ⟨h0, inner, ho, hr⟩ := hR
  have hr' : aH_ (fun x cs => cs = enc x) d.sz xs inner := ⟨hr.1, fun j p hp => (hM _ _ _ _ _).1 (hr.2 j p hp)⟩
  have ein := i2_ enc d.sz hk xs inner hr'
  subst ein
  obtain ⟨g0, cap, hv, _, _⟩ := ho.form (by omega)
  injection hv with hv1 hv2 hv3
  subst hv1 hv3
  have hsz : xs.toArray.size = xs.length := by simp
  have hH := jJ_ enc d.sz xs.toArray hsz ho
  have hblk : g0 < w.heap.size := (ho.lt g0 rfl).2
  have hL : db_ P g lb enc d.sz lt g0 0 xs.toArray.size w := by
   intro W dk hS hdk a b ha hb
   rw [hsz] at hdk ha hb
   have hHW : HoldsK enc d.sz W g0 0 dk := hS.holds hblk hH (by rw [hdk, hsz])
   have hC := hV_ enc hKK hk dk hdk (by omega) hHW
   have := hless _ dk.toList (by simpa using hdk) hC hS.1 a b ha hb
   refine this.mono ?_
   rintro e' w' ⟨rfl, hD⟩
   refine ⟨?_, hD⟩
   simp [List.getElem!_eq_getElem?_getD, Array.getElem!_eq_getD, Array.getD_eq_getD_getElem?]
  have := jf_ L t e i ie hi hd hpk hie ke hke enc d.sz hk hs1 hagg h1 lt hO g lb eg g0 0 c xs.toArray (by rw [hsz]; exact h2) (by rw [hsz]; exact hlen) (f xs.length) (by rw [hsz]; exact hf _) gS (hx _ h2) w hL hH hblk
  rw [hsz] at this
  refine this.mono ?_
  rintro e' w' ⟨rfl, d', hp, hs, hS⟩
  obtain ⟨hd', hpp⟩ := kA_ hsz hp
  refine ⟨rfl, d'.toList, by simpa using hpp, hX_ hd' hs, ⟨h0, (flatK enc d.sz d').toList, ?_, ?_⟩, hS.1⟩
  ·have := kK_ enc d.sz xs.toArray d' hS (by rw [hd', hsz]) hsz ho
   rw [show d'.toList.length = xs.length by simpa using hd']
   exact this
  ·have := mo_ enc d.sz hk d'
   exact ⟨this.1, fun j p hp => (hM _ _ _ _ _).2 (this.2 j p hp)⟩
end Go.Proofs
