/-
  What PartStrict rests on, part 16.
-/
import Derived.Test.YtocppoflhllelaaGreatP10
namespace Go.Proofs.YtocppoflhllelaaGreat
open Go.RowKit Go.Sort
section
variable {κ : Type} [DecidableEq κ] {enc : κ → Value}
theorem zK (l : Mes κ) (c : Nat) (k k' : κ) (v : Value) : VJ (Yg enc l c k v).1 k' = if k' = k then some v else VJ l k' := by
 unfold Yg
 split
 ·rename_i hk
  unfold VJ zi
  rw [List.find?_map]
  have e : ((fun p : κ × MapEntry => decide (p.1 = k')) ∘ fun p : κ × MapEntry => if p.1 = k then (p.1, { p.2 with val := v }) else p) = fun p => decide (p.1 = k') := by
   grind
  rw [e]
  by_cases h : k' = k
  ·subst h
   rw [if_pos rfl]
   obtain ⟨p, hp, hpk⟩ := List.mem_map.1 hk
   cases hf : l.find? (fun p => decide (p.1 = k')) with
   | none =>
     grind
   | some q =>
     grind
  ·rw [if_neg h]
   cases hf : l.find? (fun p => decide (p.1 = k')) with
   | none => rfl
   | some q =>
     grind
 grind [VJ]
end
def Yy (l : List Lk) (p : PlL) : Int := match l.find? (fun x => decide (x.pl = p)) with
 | some x => x.mode
 | none => 0
theorem zq {l : List Lk} {p : PlL} : Yy l p = 0 ↔ p ∉ l.map Lk.pl := by
 unfold Yy
 cases hf : l.find? (fun x => decide (x.pl = p)) with
 | none =>
   grind
 | some x =>
   have h1 := List.find?_some hf
   have h2 := List.mem_of_find?_eq_some hf
   simp only [decide_eq_true_eq] at h1
   have := JaQ x
   grind
theorem Jac {l : List Lk} {x : Lk} (h : Yy l x.pl = 0) (p : PlL) : Yy (l ++ [x]) p = if p = x.pl then x.mode else Yy l p := by
 grind [Yy, zq]
theorem Gj {l : List Lk} {x : Lk} (h : (l.map Lk.pl).Nodup) (h0 : Yy l x.pl = 0) : ((l ++ [x]).map Lk.pl).Nodup := by
 grind [zq]
def MI (ml : Mes PlL) (l : List Lk) : Prop := ∀ p, (VJ ml p).getD (.int .i8 0) = .int .i8 (Yy l p)
theorem MI.put {ml : Mes PlL} {l : List Lk} {x : Lk} {c : Nat} (h : MI ml l) (h0 : Yy l x.pl = 0) : MI (Yg encP ml c x.pl (.int .i8 x.mode)).1 (l ++ [x]) := by
 intro p
 rw [zK, Jac h0]
 split
 ·rfl
 ·exact h p
/-! counts of blocks -/
def vz (f : Lk → Bool) (l : List Lk) (k : Int) : Nat := l.countP fun x => decide (x.block = k) && f x
def ZV (f : Lk → Bool) (l : List Lk) : List Int := (List.range 32).map fun k : Nat => (vz f l (k : Int) : Int)
theorem jG (f : Lk → Bool) (l : List Lk) : (ZV f l).length = 32 := by simp [ZV]
theorem yS (f : Lk → Bool) (l : List Lk) {k : Nat} (h : k < 32) : (ZV f l)[k]? = some (vz f l (k : Int) : Int) := by
 simp [ZV, h]
theorem Xs (f : Lk → Bool) (l : List Lk) (x : Lk) (k : Int) : vz f (l ++ [x]) k = vz f l k + if (decide (x.block = k) && f x) = true then 1 else 0 := by
 grind [vz]
theorem Qs {f : Lk → Bool} {l : List Lk} {x : Lk} {kb : Nat} (hb : x.block = (kb : Int)) (hf : f x = true) : (ZV f l).set kb ((vz f l (kb : Int) : Int) + 1) = ZV f (l ++ [x]) := by
 refine List.ext_getElem? fun k => ?_
 grind [yS, jG, Xs]
theorem JeN {f : Lk → Bool} {l : List Lk} {x : Lk} (hf : f x = false) : ZV f (l ++ [x]) = ZV f l := by
 grind [ZV, Xs]
theorem Ja4 (f : Lk → Bool) (l : List Lk) (k : Int) : vz f l k ≤ l.length := List.countP_le_length
theorem vu {zs : List Int} {k : Nat} {z : Int} (h : zs[k]? = some z) : (Vi zs).toArray[k]? = some (.int .i64 z) := by
 grind [Vi]
theorem JbR {zs : List Int} {k : Nat} (hk : k < zs.length) (z : Int) : Jt (Vi zs) k [.int .i64 z] = Vi (zs.set k z) := by
 have e := List.getElem?_eq_getElem hk
 unfold Vi
 conv => lhs; rw [← List.take_append_drop k zs, List.drop_eq_getElem_cons hk]
 rw [List.map_append, List.map_cons]
 have := jy (A := (zs.take k).map (Value.int .i64)) (B := [Value.int .i64 zs[k]]) (C := (zs.drop (k + 1)).map (Value.int .i64)) (us := [.int .i64 z]) rfl
 grind [List.set_eq_take_append_cons_drop]
structure OkT (h wt : List Lk) : Prop where
 may : ∀ x ∈ h, x.may = true
 nodup : (h.map Lk.pl).Nodup
 alone : ∀ k : Nat, k < 32 → 0 < vz Lk.excl h (k : Int) → vz (fun _ => true) h (k : Int) ≤ 1
 wmay : ∀ x ∈ wt, x.may = true
 wnodup : (wt.map Lk.pl).Nodup
 wexcl : ∀ x ∈ wt, Yy h x.pl ≠ 2
theorem JeJ {l : List Lk} {i : Nat} {x : Lk} (h : (l.map Lk.pl).Nodup) (hx : l[i]? = some x) : Yy (l.take i) x.pl = 0 := by
 rw [zq]
 intro hm
 obtain ⟨y, hy, e⟩ := List.mem_map.1 hm
 obtain ⟨j, hj⟩ := List.getElem?_of_mem hy
 have hj1 : j < i := by
  grind
 rw [List.getElem?_take_of_lt hj1] at hj
 have e1 : (l.map Lk.pl)[j]? = some x.pl := by grind
 have e2 : (l.map Lk.pl)[i]? = some x.pl := by grind
 grind [List.getElem?_inj]
set_option maxRecDepth 20000 in
theorem Kq (w : World) : (zeroValue 41).run Tryz.prog w = .ok (.int .i8 0) w := by
 simp_all
theorem Xc {x : Lk} (h : x.may = true) : ∃ kb : Nat, x.block = (kb : Int) ∧ kb < 32 := by
 unfold Lk.may zJ at h
 simp only [Bool.and_eq_true, decide_eq_true_eq] at h
 exact ⟨x.block.toNat, by omega, by omega⟩
set_option maxHeartbeats 4000000 in
theorem Kk (ha wa : Option Addr) (hc wc : Nat) (h wt : List Lk) (w : World) (hv : LsL 0 w.heap.size w (.slice ha h.length hc) h) (hu : LsL 0 w.heap.size w (.slice wa wt.length wc) wt) :
 CT 61 #[zh ha wa h.length hc wt.length wc] w fun e w' => ∃ er, e = .returned (.int .i64 er) ∧ Below w.heap.size w w' ∧ (er = 0 ↔ OkT h wt) := by
 have M := Mem.start w
 have hl := hv.2.1
 unfold maxLen at hl
 have hl2 := hu.2.1
 unfold maxLen at hl2
 refine qI Tryz.func61 95 ?_; intro a S
 refine nxD (qW_ S M ?_); intro a w1 bT S M hB
 refine qG [1] S ?_; intro a S
 refine nxA (qN S M Ji8 ?_); intro a w2 bHO S M hB
 refine qN S M Ji8 ?_; intro a w3 bAL S M hB
 refine nxA (Zh (κ := PlL) S M rfl rfl ?_); intro a w4 bX S M hB
 refine Zh (κ := PlL) S M rfl rfl ?_; intro a w5 bY S M hB
 refine gp [[0,1,1],[5,1,5],[903,110],[0,1],[3]] ?_; intro a S
 refine Jc (fun m a w' => ∃ (i : Nat) (ml : Mes PlL) (c : Nat), i ≤ h.length ∧ m = h.length - i ∧ Good encP ml c ∧ MI ml (h.take i) ∧ (∀ x ∈ h.take i, x.may = true) ∧ ((h.take i).map Lk.pl).Nodup ∧ Jk 95 a [(1, p_ bT), (3, p_ bHO), (4, p_ bAL), (5, .map (some bX)), (6, .map (some bY)), (15, .slice ha h.length hc), (16, .int .i64 (h.length : Int)), (17, .int .i64 (i : Int))] ∧ Mem w w' [J0 bY ([] : Mes PlL) 0, J0 bX ml c, .blk bAL (Vi (ZV Lk.excl (h.take i))).toArray 154, .blk bHO (Vi (ZV (fun _ => true) (h.take i))).toArray 154, .blk bT #[.slice ha h.length hc, .slice wa wt.length wc] 30]) (h.length) ?_ ?_
 ·skip
  exact ⟨0, [], 0, Nat.zero_le _, rfl, ZS 0, fun p => rfl, fun x hx => (by grind), by simp, S.sub _ rfl, M⟩
 intro m a wl
 rintro ⟨i, ml, c, hi', rfl, hG, hMI, hmay, hnd, S, M⟩
 refine gq [[2,1],[3],[940,18]] ?_ ?_
 ·intro a h18 S
  refine gp [[6]] ?_; intro a S
  obtain ⟨x, hx⟩ : ∃ x, h[i]? = some x := ⟨_, List.getElem?_eq_getElem o_⟩
  have hxm := List.mem_of_getElem? hx
  have htk : h.take (i + 1) = h.take i ++ [x] := by grind [List.take_add_one]
  refine gp [[1],[907,110,5]] ?_; intro a S
  refine qY S (Ja S k_ rfl rfl ((M.arg hv).at_.row (i := i) (J6 hx) rfl)) ?_; intro a S
  refine qN S M yg ?_; intro a w6 bL S M hB
  refine go [[900,0],[5],[902,0,5]] ?_; intro a w7 S M
  refine qK S rfl (Qf x _) M ?_; intro a w8 S hK M
  refine gq [[0,1,1],[940,24]] ?_ ?_
  ·intro a h24 S
   refine gp [[0,0,0,0,0]] ?_; intro a S
   refine jY S rfl rfl rfl ?_
   refine gp [[0,1],[5,1],[9],[930]] ?_
   refine ⟨2, rfl, M.below, fun h' => absurd h' d_, fun O => ?_⟩
   exfalso
   (have := O.may x hxm; grind)
  intro a h24 S
  refine gp [[0,1],[902,0,5]] ?_; intro a S
  refine qK S rfl (YP x _) M ?_; intro a w9 S hK M
  refine qY S (V9 (pos := 2) S M (zr) (hG) Tryz.underlying212 (Kq) rfl rfl rfl) ?_; intro a S
  simp only [Bool.false_eq_true, if_false, hMI x.pl] at S
  refine qY S (J2 S rfl rfl rfl) ?_
  refine gq [[0,1],[2],[940,30]] ?_ ?_
  ·intro a h30 S
   refine gp [[3,1],[9],[930]] ?_
   refine ⟨2, rfl, M.below, fun h' => absurd h' d_, fun O => ?_⟩
   exfalso
   (have := JeJ O.nodup hx; omega)
  intro a h30 S
  refine go [[4],[910,5],[911,0,1]] ?_; intro a w10 S M
  refine kR 1 S rfl M (fun w M => Ja (cs := [_, _, _, _, _]) S k_ rfl rfl (M.cellsAt (k := 5) 0 rfl rfl)) ?_; intro a S
  refine kR 3 S rfl M (fun w M => Ja (cs := [_, _, _, _, _]) S k_ rfl rfl (M.cellsAt (k := 5) 0 rfl rfl)) ?_; intro a S
  refine k1_ 2 ?_
  refine qK S rfl (YP x _) M ?_; intro a w11 S hK M
  refine kH_ hK ?_
  refine k1_ 4 ?_
  refine qK S rfl (Gk x _) M ?_; intro a w12 S hK M
  refine kH_ hK ?_
  refine k1_ 5 ?_
  refine VU (pos := 2) S M (zr) (hG) Tryz.underlying212 rfl rfl rfl rfl rfl ?_; intro w13 M
  replace M := M.s_
  refine kn_ ?_
  refine gp [[3]] ?_; intro a S
  have hxy : x.may = true := by exact h24
  obtain ⟨kb, hkb, hk32⟩ := Xc hxy
  have h0 : Yy (h.take i) x.pl = 0 := by exact h30
  have hcl : ∀ f, vz f (h.take i) (kb : Int) ≤ i := fun f => by have := Ja4 f (h.take i) (kb : Int); rw [List.length_take] at this; omega
  have hc1 := hcl fun _ => true
  have hc2 := hcl Lk.excl
  refine gp [[1,4,1]] ?_; intro a S
  rw [hkb] at S
  refine gp [[906,32,1]] ?_; intro a S
  refine qY S (Jf S k_ rfl (M.cell 4 rfl (vu (yS _ _ hk32)))) ?_
  refine gp [[901],[906,32,1]] ?_; intro a S
  refine Ju (sz := 1) (us := [_]) S M 4 rfl k_ rfl rfl rfl rfl rfl rfl (by simp [Vi, jG]; omega) ?_; intro w14 M
  replace M := M.s_
  refine gp [[4,5,1],[2]] ?_; intro a S
  refine Jm (t := 43) S rfl ?_ ?_
  ·intro h43 S
   refine gp [[5],[901],[0,1],[2]] ?_; intro a S
   replace M := M.drp 0
   have hk1 : kb < (ZV (fun _ => true) (h.take i)).length := by rw [jG]; exact hk32
   have hk2 : kb < (ZV Lk.excl (h.take i)).length := by rw [jG]; exact hk32
   rw [JbR hk1, Qs hkb rfl, ← htk] at M
   have hmay2 : ∀ y ∈ h.take (i + 1), y.may = true := fun y hy => by
    rw [htk] at hy
    rcases List.mem_append.1 hy with hy | hy
    ·exact hmay y hy
    ·obtain rfl := List.mem_singleton.1 hy; exact hxy
   have hnd2 : ((h.take (i + 1)).map Lk.pl).Nodup := by rw [htk]; exact Gj hnd h0
   have hMI2 : MI (Yg encP ml c x.pl (.int .i8 x.mode)).1 (h.take (i + 1)) := by rw [htk]; exact hMI.put h0
   (rw [← JeN (l := h.take i) h43, ← htk] at M
    exact ⟨h.length - (i + 1), by omega, i + 1, _, _, by omega, rfl, hG.put _ _, hMI2, hmay2, hnd2, S.sub _ rfl, M⟩)
  intro h43 S
  refine gp [[2,4,1]] ?_; intro a S
  rw [hkb] at S
  refine gp [[906,32,1]] ?_; intro a S
  refine qY S (Jf S k_ rfl (M.cell 3 rfl (vu (yS _ _ hk32)))) ?_
  refine gp [[901],[906,32,1]] ?_; intro a S
  refine Ju (sz := 1) (us := [_]) S M 3 rfl k_ rfl rfl rfl rfl rfl rfl (by simp [Vi, jG]; omega) ?_; intro w15 M
  replace M := M.s_
  refine gp [[4],[901],[0,1],[2]] ?_; intro a S
  replace M := M.drp 0
  have hk1 : kb < (ZV (fun _ => true) (h.take i)).length := by rw [jG]; exact hk32
  have hk2 : kb < (ZV Lk.excl (h.take i)).length := by rw [jG]; exact hk32
  rw [JbR hk1, Qs hkb rfl, ← htk] at M
  have hmay2 : ∀ y ∈ h.take (i + 1), y.may = true := fun y hy => by
   rw [htk] at hy
   rcases List.mem_append.1 hy with hy | hy
   ·exact hmay y hy
   ·obtain rfl := List.mem_singleton.1 hy; exact hxy
  have hnd2 : ((h.take (i + 1)).map Lk.pl).Nodup := by rw [htk]; exact Gj hnd h0
  have hMI2 : MI (Yg encP ml c x.pl (.int .i8 x.mode)).1 (h.take (i + 1)) := by rw [htk]; exact hMI.put h0
  (rw [JbR hk2, Qs hkb h43, ← htk] at M
   exact ⟨h.length - (i + 1), by omega, i + 1, _, _, by omega, rfl, hG.put _ _, hMI2, hmay2, hnd2, S.sub _ rfl, M⟩)
 intro a h18 S
 refine gp [[8]] ?_; intro a S
 obtain rfl : i = h.length := by omega
 rw [List.take_length] at hMI hmay hnd M
 refine gp [[1,1],[3]] ?_; intro a S
 refine Jc (fun m a w' => ∃ (k : Nat), k ≤ 32 ∧ m = 32 - k ∧ (∀ q : Nat, q < k → 0 < vz Lk.excl h (q : Int) → vz (fun _ => true) h (q : Int) ≤ 1) ∧ Jk 95 a [(1, p_ bT), (3, p_ bHO), (4, p_ bAL), (5, .map (some bX)), (6, .map (some bY)), (51, .int .i64 (k : Int))] ∧ Mem w w' [J0 bY ([] : Mes PlL) 0, J0 bX ml c, .blk bAL (Vi (ZV Lk.excl h)).toArray 154, .blk bHO (Vi (ZV (fun _ => true) h)).toArray 154, .blk bT #[.slice ha h.length hc, .slice wa wt.length wc] 30]) (32) ?_ ?_
 ·skip
  exact ⟨0, by omega, rfl, fun q hq => absurd hq o_, S.sub _ rfl, M⟩
 intro m a wl
 rintro ⟨k, hk, rfl, hal, S, M⟩
 refine gq [[2,1],[3],[940,52]] ?_ ?_
 ·intro a h52 S
  refine gp [[7,1,1],[3]] ?_; intro a S
  have hk32 : k < 32 := by omega
  refine gp [[1,1],[906,32,1]] ?_; intro a S
  refine qY S (Jf S k_ rfl (M.cell 2 rfl (vu (yS _ _ hk32)))) ?_
  refine gq [[0,1,1],[943,58]] ?_ ?_
  ·intro a h58 S
   refine gp [[0,0,0,0,0,1],[7],[901],[0,1],[2]] ?_; intro a S
   refine ⟨32 - (k + 1), by omega, k + 1, by omega, rfl, fun q hq h1 => ?_, S.sub _ rfl, M⟩
   rcases Nat.lt_or_ge q k with h | h
   ·exact hal q h h1
   ·obtain rfl : q = k := by omega
    omega
  intro a h58 S
  refine gp [[0,1],[906,32,1]] ?_; intro a S
  refine qY S (Jf S k_ rfl (M.cell 3 rfl (vu (yS _ _ hk32)))) ?_
  refine gq [[0,1,1],[2],[940,63]] ?_ ?_
  ·intro a h63 S
   refine gp [[3,1],[8],[930]] ?_
   exact ⟨2, rfl, M.below, fun h' => absurd h' d_, fun O => by have := O.alone k hk32 o_; omega⟩
  intro a h63 S
  refine gp [[5],[901],[0,1],[2]] ?_; intro a S
  refine ⟨32 - (k + 1), by omega, k + 1, by omega, rfl, fun q hq h1 => ?_, S.sub _ rfl, M⟩
  rcases Nat.lt_or_ge q k with h | h
  ·exact hal q h h1
  ·obtain rfl : q = k := by omega
   omega
 intro a h52 S
 refine gp [[9,2,5],[903,110],[0,1],[3]] ?_; intro a S
 refine Jc (fun m a w' => ∃ (i : Nat) (my : Mes PlL) (d : Nat), i ≤ wt.length ∧ m = wt.length - i ∧ Good encP my d ∧ MI my (wt.take i) ∧ (∀ x ∈ wt.take i, x.may = true) ∧ ((wt.take i).map Lk.pl).Nodup ∧ (∀ x ∈ wt.take i, Yy h x.pl ≠ 2) ∧ Jk 95 a [(5, .map (some bX)), (6, .map (some bY)), (66, .slice wa wt.length wc), (67, .int .i64 (wt.length : Int)), (68, .int .i64 (i : Int))] ∧ Mem w w' [J0 bY my d, J0 bX ml c]) (wt.length) ?_ ?_
 ·skip
  replace M := ((M.drp 2).drp 2).drp 2
  exact ⟨0, [], 0, Nat.zero_le _, rfl, ZS 0, fun p => rfl, fun x hx => (by simp at hx), by simp, fun x hx => (by simp at hx), S.sub _ rfl, M⟩
 intro m a wl
 rintro ⟨i2, my, d, hi2, rfl, hG2, hMI2, hmay2, hnd2, hex2, S, M⟩
 refine gq [[2,1],[3],[943,69]] ?_ ?_
 ·intro a h69 S
  refine gp [[8,1],[3],[930]] ?_
  obtain rfl : i2 = wt.length := by omega
  rw [List.take_length] at hmay2 hnd2 hex2
  obtain rfl : k = 32 := by omega
  exact ⟨0, rfl, M.below, fun _ => ⟨hmay, hnd, hal, hmay2, hnd2, hex2⟩, fun _ => rfl⟩
 intro a h69 S
 refine gp [[6]] ?_; intro a S
 obtain ⟨x, hx⟩ : ∃ x, wt[i2]? = some x := ⟨_, List.getElem?_eq_getElem o_⟩
 have hxm := List.mem_of_getElem? hx
 have htk : wt.take (i2 + 1) = wt.take i2 ++ [x] := by rw [List.take_add_one, hx]; rfl
 refine gp [[1],[907,110,5]] ?_; intro a S
 refine qY S (Ja S k_ rfl rfl ((M.arg hu).at_.row (i := i2) (J6 hx) rfl)) ?_; intro a S
 refine qN S M yg ?_; intro a w16 bL S M hB
 refine go [[900,0],[5],[902,0,5]] ?_; intro a w17 S M
 refine qK S rfl (Qf x _) M ?_; intro a w18 S hK M
 refine gq [[0,1,1],[940,75]] ?_ ?_
 ·intro a h75 S
  refine gp [[0,0,0,0,0]] ?_; intro a S
  refine jY S rfl rfl rfl ?_
  refine gp [[0,1,1,0,0,0,0]] ?_; intro a S
  refine jY S rfl rfl rfl ?_
  refine gp [[0,1],[5,1],[9],[930]] ?_
  refine ⟨2, rfl, M.below, fun h' => absurd h' d_, fun O => ?_⟩
  exfalso
  (have := O.wmay x hxm; simp_all; done)
 intro a h75 S
 refine gp [[0,1],[902,0,5]] ?_; intro a S
 refine qK S rfl (YP x _) M ?_; intro a w19 S hK M
 refine qY S (V9 (pos := 1) S M (zr) (hG2) Tryz.underlying212 (Kq) rfl rfl rfl) ?_; intro a S
 simp only [Bool.false_eq_true, if_false, hMI2 x.pl] at S
 refine qY S (J2 S rfl rfl rfl) ?_
 refine gq [[0,1,1],[940,82]] ?_ ?_
 ·intro a h82 S
  refine gp [[0,0,0,0,0]] ?_; intro a S
  refine jY S rfl rfl rfl ?_
  refine gp [[0,1],[5,1],[9],[930]] ?_
  refine ⟨2, rfl, M.below, fun h' => absurd h' d_, fun O => ?_⟩
  exfalso
  (have := JeJ O.wnodup hx; omega)
 intro a h82 S
 refine gp [[0,1],[902,0,5]] ?_; intro a S
 refine qK S rfl (YP x _) M ?_; intro a w20 S hK M
 refine qY S (V9 (pos := 2) S M (zr) (hG) Tryz.underlying212 (Kq) rfl rfl rfl) ?_; intro a S
 simp only [Bool.false_eq_true, if_false, hMI x.pl] at S
 refine qY S (J2 S rfl rfl rfl) ?_
 refine gq [[0,1],[2],[940,88]] ?_ ?_
 ·intro a h88 S
  refine gp [[3,1],[9],[930]] ?_
  refine ⟨2, rfl, M.below, fun h' => absurd h' d_, fun O => ?_⟩
  exfalso
  (have := O.wexcl x hxm; omega)
 intro a h88 S
 refine go [[3],[910,5],[911,0,1]] ?_; intro a w21 S M
 refine kR 1 S rfl M (fun w M => Ja (cs := [_, _, _, _, _]) S k_ rfl rfl (M.cellsAt (k := 5) 0 rfl rfl)) ?_; intro a S
 refine kR 3 S rfl M (fun w M => Ja (cs := [_, _, _, _, _]) S k_ rfl rfl (M.cellsAt (k := 5) 0 rfl rfl)) ?_; intro a S
 refine k1_ 2 ?_
 refine qK S rfl (YP x _) M ?_; intro a w22 S hK M
 refine kH_ hK ?_
 refine k1_ 4 ?_
 refine qK S rfl (Gk x _) M ?_; intro a w23 S hK M
 refine kH_ hK ?_
 refine k1_ 5 ?_
 refine VU (pos := 1) S M (zr) (hG2) Tryz.underlying212 rfl rfl rfl rfl rfl ?_; intro w24 M
 replace M := M.s_
 refine kn_ ?_
 refine gp [[4],[901],[0,1],[2]] ?_; intro a S
 replace M := M.drp 0
 have hxy : x.may = true := by exact h75
 have h0 : Yy (wt.take i2) x.pl = 0 := by exact h82
 have h1 : Yy h x.pl ≠ 2 := by exact h88
 refine ⟨wt.length - (i2 + 1), by omega, i2 + 1, _, _, by omega, rfl, hG2.put _ _, by rw [htk]; exact hMI2.put h0, fun y hy => ?_, by rw [htk]; exact Gj hnd2 h0, fun y hy => ?_, S.sub _ rfl, M⟩
 ·rw [htk] at hy
  rcases List.mem_append.1 hy with hy | hy
  ·exact hmay2 y hy
  ·obtain rfl := List.mem_singleton.1 hy; exact hxy
 grind
end Go.Proofs.YtocppoflhllelaaGreat
