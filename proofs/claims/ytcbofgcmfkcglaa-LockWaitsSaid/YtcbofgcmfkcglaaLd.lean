/-
  Package lock: Check.
-/
import Derived.Test.YtcbofgcmfkcglaaLc
import Derived.Test.YtcbofgcmfkcglaaIc
namespace Go.Proofs.Ytcbofgcmfkcglaa
open Go.RowKit Go.Sort

section
variable {κ : Type} [DecidableEq κ] {enc : κ → Value}
theorem get_put (l : Mes κ) (c : Nat) (k k' : κ) (v : Value) : getM (putM enc l c k v).1 k' = if k' = k then some v else getM l k' := by
  unfold putM
  split
  · rename_i hk
    unfold getM setM
    rw [List.find?_map]
    have e : ((fun p : κ × MapEntry => decide (p.1 = k')) ∘ fun p : κ × MapEntry => if p.1 = k then (p.1, { p.2 with val := v }) else p) = fun p => decide (p.1 = k') := by
      funext p; simp only [Function.comp]; split <;> rfl
    rw [e]
    by_cases h : k' = k
    · subst h
      rw [if_pos rfl]
      obtain ⟨p, hp, hpk⟩ := List.mem_map.1 hk
      cases hf : l.find? (fun p => decide (p.1 = k')) with
      | none =>
        rw [List.find?_eq_none] at hf
        exact absurd (by simpa using hpk) (hf p hp)
      | some q =>
        have := List.find?_some hf
        simp only [decide_eq_true_eq] at this
        simp [this]
    · rw [if_neg h]
      cases hf : l.find? (fun p => decide (p.1 = k')) with
      | none => rfl
      | some q =>
        have := List.find?_some hf
        simp only [decide_eq_true_eq] at this
        have h2 : ¬ q.1 = k := fun e => h (this.symm.trans e)
        simp [h2]
  · rename_i hk
    unfold getM
    rw [List.find?_append]
    by_cases h : k' = k
    · subst h
      rw [if_pos rfl]
      have : l.find? (fun p => decide (p.1 = k')) = none := by
        rw [List.find?_eq_none]
        intro p hp e
        simp only [decide_eq_true_eq] at e
        exact hk (by rw [← e]; exact List.mem_map_of_mem hp)
      rw [this]; simp
    · rw [if_neg h]
      have h2 : ¬ k = k' := fun e => h e.symm
      cases hf : l.find? (fun p => decide (p.1 = k')) <;> simp [h2]
end
/-- how the map that is filled from a row tells a place -/
def modeOf (l : List Lk) (p : Pl) : Int := match l.find? (fun x => decide (x.pl = p)) with
  | some x => x.mode
  | none => 0
theorem modeOf_zero {l : List Lk} {p : Pl} : modeOf l p = 0 ↔ p ∉ l.map Lk.pl := by
  unfold modeOf
  cases hf : l.find? (fun x => decide (x.pl = p)) with
  | none =>
    rw [List.find?_eq_none] at hf
    refine ⟨fun _ h => ?_, fun _ => rfl⟩
    obtain ⟨x, hx, e⟩ := List.mem_map.1 h
    exact hf x hx (by simpa using e)
  | some x =>
    have h1 := List.find?_some hf
    have h2 := List.mem_of_find?_eq_some hf
    simp only [decide_eq_true_eq] at h1
    have := mode_bd x
    refine ⟨fun h => by simp only at h; omega, fun h => absurd (List.mem_map.2 ⟨x, h2, h1⟩) h⟩
theorem modeOf_snoc {l : List Lk} {x : Lk} (h : modeOf l x.pl = 0) (p : Pl) : modeOf (l ++ [x]) p = if p = x.pl then x.mode else modeOf l p := by
  unfold modeOf
  rw [List.find?_append]
  by_cases e : p = x.pl
  · subst e
    rw [if_pos rfl]
    have : l.find? (fun y => decide (y.pl = x.pl)) = none := by
      rw [List.find?_eq_none]
      intro y hy e
      exact modeOf_zero.1 h (List.mem_map.2 ⟨y, hy, by simpa using e⟩)
    rw [this]; simp
  · rw [if_neg e]
    have h2 : ¬ x.pl = p := fun h => e h.symm
    cases hf : l.find? (fun y => decide (y.pl = p)) <;> simp [h2]
theorem nodup_snoc {l : List Lk} {x : Lk} (h : (l.map Lk.pl).Nodup) (h0 : modeOf l x.pl = 0) : ((l ++ [x]).map Lk.pl).Nodup := by
  rw [List.map_append, List.nodup_append]
  refine ⟨h, by simp, fun a ha b hb e => ?_⟩
  simp at hb; subst hb; subst e
  exact modeOf_zero.1 h0 ha
def MI (ml : Mes Pl) (l : List Lk) : Prop := ∀ p, (getM ml p).getD (.int .i8 0) = .int .i8 (modeOf l p)
theorem MI.put {ml : Mes Pl} {l : List Lk} {x : Lk} {c : Nat} (h : MI ml l) (h0 : modeOf l x.pl = 0) : MI (putM encP ml c x.pl (.int .i8 x.mode)).1 (l ++ [x]) := by
  intro p
  rw [get_put, modeOf_snoc h0]
  split
  · rfl
  · exact h p
/-! counts of blocks -/
def cntP (f : Lk → Bool) (l : List Lk) (k : Int) : Nat := l.countP fun x => decide (x.block = k) && f x
def cnts (f : Lk → Bool) (l : List Lk) : List Int := (List.range 32).map fun k : Nat => (cntP f l (k : Int) : Int)
theorem cnts_len (f : Lk → Bool) (l : List Lk) : (cnts f l).length = 32 := by simp [cnts]
theorem cnts_get (f : Lk → Bool) (l : List Lk) {k : Nat} (h : k < 32) : (cnts f l)[k]? = some (cntP f l (k : Int) : Int) := by
  simp [cnts, h]
theorem cntP_snoc (f : Lk → Bool) (l : List Lk) (x : Lk) (k : Int) : cntP f (l ++ [x]) k = cntP f l k + if (decide (x.block = k) && f x) = true then 1 else 0 := by
  unfold cntP; rw [List.countP_append, List.countP_singleton]
theorem cnts_set {f : Lk → Bool} {l : List Lk} {x : Lk} {kb : Nat} (hb : x.block = (kb : Int)) (hf : f x = true) : (cnts f l).set kb ((cntP f l (kb : Int) : Int) + 1) = cnts f (l ++ [x]) := by
  refine List.ext_getElem? fun k => ?_
  by_cases hk : k < 32
  · rw [cnts_get f _ hk, List.getElem?_set, cnts_len, cnts_get f _ hk, cntP_snoc, hb, hf]
    by_cases e : kb = k
    · subst e; simp [hk]
    · have : ¬ (kb : Int) = (k : Int) := by omega
      simp [e, this]
  · rw [List.getElem?_eq_none (by rw [List.length_set, cnts_len]; omega), List.getElem?_eq_none (by rw [cnts_len]; omega)]
theorem cnts_same {f : Lk → Bool} {l : List Lk} {x : Lk} (hf : f x = false) : cnts f (l ++ [x]) = cnts f l := by
  unfold cnts
  congr 1; funext k
  rw [cntP_snoc, hf]; simp
theorem cntP_le (f : Lk → Bool) (l : List Lk) (k : Int) : cntP f l k ≤ l.length := List.countP_le_length
theorem icell_at {zs : List Int} {k : Nat} {z : Int} (h : zs[k]? = some z) : (icells zs).toArray[k]? = some (.int .i64 z) := by
  rw [List.getElem?_toArray]; unfold icells; rw [List.getElem?_map, h]; rfl
theorem iput {zs : List Int} {k : Nat} (hk : k < zs.length) (z : Int) : putL (icells zs) k [.int .i64 z] = icells (zs.set k z) := by
  have e := List.getElem?_eq_getElem hk
  unfold icells
  conv => lhs; rw [← List.take_append_drop k zs, List.drop_eq_getElem_cons hk]
  rw [List.map_append, List.map_cons]
  have := putL_mid (A := (zs.take k).map (Value.int .i64)) (B := [Value.int .i64 zs[k]]) (C := (zs.drop (k + 1)).map (Value.int .i64)) (us := [.int .i64 z]) rfl
  rw [show ((zs.take k).map (Value.int .i64)).length = k by simp; omega] at this
  refine this.trans ?_
  rw [List.set_eq_take_append_cons_drop, if_pos hk]
  simp
/-- a table that may be -/
structure OkT (h wt : List Lk) : Prop where
  may : ∀ x ∈ h, x.may = true
  nodup : (h.map Lk.pl).Nodup
  alone : ∀ k : Nat, k < 32 → 0 < cntP Lk.excl h (k : Int) → cntP (fun _ => true) h (k : Int) ≤ 1
  wmay : ∀ x ∈ wt, x.may = true
  wnodup : (wt.map Lk.pl).Nodup
  wexcl : ∀ x ∈ wt, modeOf h x.pl ≠ 2
theorem dup_no {l : List Lk} {i : Nat} {x : Lk} (h : (l.map Lk.pl).Nodup) (hx : l[i]? = some x) : modeOf (l.take i) x.pl = 0 := by
  rw [modeOf_zero]
  intro hm
  obtain ⟨y, hy, e⟩ := List.mem_map.1 hm
  obtain ⟨j, hj⟩ := List.getElem?_of_mem hy
  have hj1 : j < i := by
    have := (List.getElem?_eq_some_iff.1 hj).1
    rw [List.length_take] at this; omega
  rw [List.getElem?_take_of_lt hj1] at hj
  have e1 : (l.map Lk.pl)[j]? = some x.pl := by rw [List.getElem?_map, hj, ← e]; rfl
  have e2 : (l.map Lk.pl)[i]? = some x.pl := by rw [List.getElem?_map, hx]; rfl
  have := (List.getElem?_inj (List.getElem?_eq_some_iff.1 e1).1 h).1 (e1.trans e2.symm)
  omega
theorem zero_i8 (w : World) : (zeroValue 32).run Try.prog w = .ok (.int .i8 0) w := by
  obtain ⟨i, hi, hz⟩ : ∃ i, Try.prog.info? 32 = some i ∧ i.zero = some (.int .i8 0) := by
    refine ⟨_, rfl, ?_⟩
    kernel_rfl
  simp [zeroValue, typeInfo, hi, hz, go_sem]
theorem may_block {x : Lk} (h : x.may = true) : ∃ kb : Nat, x.block = (kb : Int) ∧ kb < 32 := by
  unfold Lk.may knownB at h
  simp only [Bool.and_eq_true, decide_eq_true_eq] at h
  exact ⟨x.block.toNat, by omega, by omega⟩
set_option maxHeartbeats 4000000 in
theorem check_any (ha wa : Option Addr) (hc wc : Nat) (h wt : List Lk) (w : World) (hv : Ls 0 w.heap.size w (.slice ha h.length hc) h) (hu : Ls 0 w.heap.size w (.slice wa wt.length wc) wt) :
    Calls Try.prog 11 #[tabV ha wa h.length hc wt.length wc] w fun e w' => ∃ er, e = .returned (.int .i64 er) ∧ Below w.heap.size w w' ∧ (er = 0 ↔ OkT h wt) := by
  have M := Mem.start w
  have hl := hv.2.1
  unfold maxLen at hl
  have hl2 := hu.2.1
  unfold maxLen at hl2
  refine calls_enter Try.func11 rfl 95 rfl rfl ?_; intro a S
  refine nxD ?_
  refine st_box S M rfl rfl rfl #[_, _] rfl ?_; clear S M a; intro a w1 bT S M hB
  refine st_go [1] S rfl (by kernel_rfl) ?_; clear S a; intro a S
  refine nxA ?_
  refine st_alloc S M rfl rfl #[.int .i64 0, .int .i64 0, .int .i64 0, .int .i64 0, .int .i64 0, .int .i64 0, .int .i64 0, .int .i64 0, .int .i64 0, .int .i64 0, .int .i64 0, .int .i64 0, .int .i64 0, .int .i64 0, .int .i64 0, .int .i64 0, .int .i64 0, .int .i64 0, .int .i64 0, .int .i64 0, .int .i64 0, .int .i64 0, .int .i64 0, .int .i64 0, .int .i64 0, .int .i64 0, .int .i64 0, .int .i64 0, .int .i64 0, .int .i64 0, .int .i64 0, .int .i64 0] (by kernel_rfl) ?_; clear S M a; intro a w2 bHO S M hB
  refine st_alloc S M rfl rfl #[.int .i64 0, .int .i64 0, .int .i64 0, .int .i64 0, .int .i64 0, .int .i64 0, .int .i64 0, .int .i64 0, .int .i64 0, .int .i64 0, .int .i64 0, .int .i64 0, .int .i64 0, .int .i64 0, .int .i64 0, .int .i64 0, .int .i64 0, .int .i64 0, .int .i64 0, .int .i64 0, .int .i64 0, .int .i64 0, .int .i64 0, .int .i64 0, .int .i64 0, .int .i64 0, .int .i64 0, .int .i64 0, .int .i64 0, .int .i64 0, .int .i64 0, .int .i64 0] (by kernel_rfl) ?_; clear S M a; intro a w3 bAL S M hB
  refine nxA ?_
  refine st_makeMap (κ := Pl) S M rfl rfl ?_; clear S M a; intro a w4 bX S M hB
  refine st_makeMap (κ := Pl) S M rfl rfl ?_; clear S M a; intro a w5 bY S M hB
  refine st_go [1, 1] S rfl (by kernel_rfl) ?_; clear S a; intro a S
  refine nxC ?_
  refine wp_seq ?_
  refine nxD ?_
  refine st_run [1, 5] S M rfl (by kernel_rfl) ?_; clear S a; intro a S
  refine st_y S rfl rfl rfl (y_lenS (E := 37) S rfl (by kernel_rfl)) ?_; clear S a; intro a S
  refine st_go [1] S rfl (by kernel_rfl) ?_; clear S a; intro a S
  refine nxC ?_
  refine wp_block ?_
  refine wp_loop_g (fun m a w' => ∃ (i : Nat) (ml : Mes Pl) (c : Nat), i ≤ h.length ∧ m = h.length - i ∧ Good encP ml c ∧ MI ml (h.take i) ∧ (∀ x ∈ h.take i, x.may = true) ∧ ((h.take i).map Lk.pl).Nodup ∧ Sees 95 a [(1, .pointer (some ⟨bT, 0, none⟩)), (3, .pointer (some ⟨bHO, 0, none⟩)), (4, .pointer (some ⟨bAL, 0, none⟩)), (5, .map (some bX)), (6, .map (some bY)), (15, .slice ha h.length hc), (16, .int .i64 (h.length : Int)), (17, .int .i64 (i : Int))] ∧ Mem w w' [mapX bY ([] : Mes Pl) 0, mapX bX ml c, .blk bAL (icells (cnts Lk.excl (h.take i))).toArray 75, .blk bHO (icells (cnts (fun _ => true) (h.take i))).toArray 75, .blk bT #[.slice ha h.length hc, .slice wa wt.length wc] 30]) (h.length) ?_ ?_
  · skip
    exact ⟨0, [], 0, Nat.zero_le _, rfl, good_nil 0, fun p => rfl, fun x hx => (by simp at hx), by simp, S.sub _ rfl, M⟩
  clear S M a; intro m a wl
  rintro ⟨i, ml, c, hi', rfl, hG, hMI, hmay, hnd, S, M⟩
  refine nxD ?_
  refine st_go [1] S rfl (by kernel_rfl) ?_; clear S a; intro a S
  refine nxC ?_
  refine wp_seq ?_
  refine st_if (t := 18) S rfl ?_ ?_
  · clear S; intro h18 S
    refine st_condT S rfl ?_
    refine wp_skip ?_
    refine then_normal ?_
    refine wp_seq ?_
    refine wp_block ?_
    refine wp_seq ?_
    obtain ⟨x, hx⟩ : ∃ x, h[i]? = some x := ⟨_, List.getElem?_eq_getElem (by omega)⟩
    have hxm := List.mem_of_getElem? hx
    have htk : h.take (i + 1) = h.take i ++ [x] := by rw [List.take_add_one, hx]; rfl
    refine wp_region_lit ?_
    refine st_y S rfl rfl rfl (y_indexR (e := 37) (sz := 5) S (by kernel_rfl) rfl ((M.arg hv)) rfl (by first | omega | (simp; done) | (simp; omega))) ?_; clear S a; intro a S
    try simp only [Int.toNat_natCast, Nat.mul_one, Nat.zero_add] at S
    refine st_y S rfl rfl rfl (y_loadAgg S (by kernel_rfl) rfl rfl ((M.arg hv).at_.row (i := i) (lcells_get hx) rfl)) ?_; clear S a; intro a S
    refine st_alloc S M rfl rfl #[.int .i64 0, .int .i64 0, .int .i64 0, .int .i64 0, .bool false] (by kernel_rfl) ?_; clear S M a; intro a w6 bL S M hB
    refine st_store (sz := 5) (us := [_, _, _, _, _]) S M 0 rfl (by kernel_rfl) rfl rfl rfl rfl rfl rfl (by first | decide | (simp; done) | (simp; omega)) ?_; clear M; intro w7 M
    simp only [putL, List.set_cons_zero, List.set_cons_succ, Nat.reduceAdd] at M
    refine nxC ?_
    refine wp_seq ?_
    refine nxD ?_
    refine st_y S rfl rfl rfl (y_loadAgg (cs := [_, _, _, _, _]) S (by kernel_rfl) rfl rfl (M.cellsAt (k := 5) 0 rfl rfl)) ?_; clear S a; intro a S
    refine st_call (xs := [(Operand.tmp 21)]) S (enters_of Try.func15 (by decide) rfl) rfl rfl rfl (may_any x _) ?_
    rintro _ w8 ⟨rfl, hK⟩; refine ⟨_, rfl, ?_⟩; clear S a; intro a S; replace M := M.grow hK
    refine st_go [1, 1] S rfl (by kernel_rfl) ?_; clear S a; intro a S
    refine st_if (t := 24) S rfl ?_ ?_
    · clear S; intro h24 S
      refine st_go [0, 0, 0, 0] S rfl (by kernel_rfl) ?_; clear S a; intro a S
      refine st_no S rfl rfl rfl ?_; clear S a; intro a S
      refine st_go [1] S rfl (by kernel_rfl) ?_; clear S a; intro a S
      refine nxC ?_
      refine st_condT S rfl ?_
      refine nxD ?_
      refine st_go [1] S rfl (by kernel_rfl) ?_; clear S a; intro a S
      refine nxC ?_
      refine wp_ret ?_
      refine then_ret ?_
      refine block_ret ?_
      refine then_ret ?_
      refine then_ret ?_
      refine block_ret ?_
      refine then_ret ?_
      refine end_one S rfl (res_tmp rfl) ?_
      refine ⟨2, rfl, M.below, fun h' => absurd h' (by decide), fun O => ?_⟩
      exfalso
      first
        | (have := dup_no O.nodup hx; omega)
        | (have := O.may x hxm; simp_all; done)
    clear S; intro h24 S
    refine st_go [1] S rfl (by kernel_rfl) ?_; clear S a; intro a S
    refine st_y S rfl rfl rfl (y_loadAgg (cs := [_, _, _, _, _]) S (by kernel_rfl) rfl rfl (M.cellsAt (k := 5) 0 rfl rfl)) ?_; clear S a; intro a S
    refine st_call (xs := [(Operand.tmp 26)]) S (enters_of Try.func19 (by decide) rfl) rfl rfl rfl (at_any x _) ?_
    rintro _ w9 ⟨rfl, hK⟩; refine ⟨_, rfl, ?_⟩; clear S a; intro a S; replace M := M.grow hK
    refine st_y S rfl rfl rfl (y_lookupM (pos := 2) S M (keyP) (hG) Try.underlying72 (zero_i8) rfl rfl rfl) ?_; clear S a; intro a S
    simp only [Bool.false_eq_true, if_false, hMI x.pl] at S
    refine st_y S rfl rfl rfl (y_int S rfl rfl rfl) ?_; clear S a; intro a S
    refine st_go [1] S rfl (by kernel_rfl) ?_; clear S a; intro a S
    refine nxC ?_
    refine st_if (t := 30) S rfl ?_ ?_
    · clear S; intro h30 S
      refine st_condT S rfl ?_
      refine nxD ?_
      refine st_go [1] S rfl (by kernel_rfl) ?_; clear S a; intro a S
      refine nxC ?_
      refine wp_ret ?_
      refine then_ret ?_
      refine block_ret ?_
      refine then_ret ?_
      refine then_ret ?_
      refine block_ret ?_
      refine then_ret ?_
      refine end_one S rfl (res_tmp rfl) ?_
      refine ⟨2, rfl, M.below, fun h' => absurd h' (by decide), fun O => ?_⟩
      exfalso
      first
        | (have := dup_no O.nodup hx; omega)
        | (have := O.may x hxm; simp_all; done)
    clear S; intro h30 S
    refine st_condF S rfl ?_
    refine wp_skip ?_
    refine then_normal ?_
    refine wp_seq ?_
    refine wp_regionK [5] #[false, false, false, false, false, false] rfl M (by kernel_rfl) ?_; clear M; intro w10 M
    refine k_pure (listed' := #[true, false, false, false, false, false]) 0 S rfl rfl rfl rfl (by kernel_rfl) rfl (fun _ d _ _ _ h => by cases d <;> exact h) (fun w => y_move S rfl) ?_; clear S a; intro a S
    refine k_read (listed' := #[true, true, false, false, false, false]) 1 S rfl rfl rfl rfl (by kernel_rfl) rfl (fun _ d _ _ _ h => by cases d <;> exact h) (fun w hW => have M := M.grow hW; y_loadAgg (cs := [_, _, _, _, _]) S (by kernel_rfl) rfl rfl (M.cellsAt (k := 5) 0 rfl rfl)) ?_; clear S a; intro a S
    refine k_read (listed' := #[true, true, false, true, false, false]) 3 S rfl rfl rfl rfl (by kernel_rfl) rfl (fun _ d _ _ _ h => by cases d <;> exact h) (fun w hW => have M := M.grow hW; y_loadAgg (cs := [_, _, _, _, _]) S (by kernel_rfl) rfl rfl (M.cellsAt (k := 5) 0 rfl rfl)) ?_; clear S a; intro a S
    refine k_one (listed' := #[true, true, true, true, false, false]) 2 rfl (by kernel_rfl) rfl ?_
    refine st_call (xs := [(Operand.tmp 32)]) S (enters_of Try.func19 (by decide) rfl) rfl rfl rfl (at_any x _) ?_
    rintro _ w11 ⟨rfl, hK⟩; refine ⟨_, rfl, ?_⟩; clear S a; intro a S; replace M := M.grow hK
    refine wpList_nil ?_; refine then_normal ?_; refine ⟨fun _ => hK, ?_⟩
    refine k_one (listed' := #[true, true, true, true, true, false]) 4 rfl (by kernel_rfl) rfl ?_
    refine st_call (xs := [(Operand.tmp 34)]) S (enters_of Try.func26 (by decide) rfl) rfl rfl rfl (mode_any x _) ?_
    rintro _ w12 ⟨rfl, hK⟩; refine ⟨_, rfl, ?_⟩; clear S a; intro a S; replace M := M.grow hK
    refine wpList_nil ?_; refine then_normal ?_; refine ⟨fun _ => hK, ?_⟩
    refine k_one (listed' := #[true, true, true, true, true, true]) 5 rfl (by kernel_rfl) rfl ?_
    refine st_updateM (pos := 2) S M (keyP) (hG) Try.underlying72 rfl rfl rfl rfl rfl ?_; clear M; intro w13 M
    simp only [List.set_cons_zero, List.set_cons_succ] at M
    refine wpList_nil ?_; refine then_normal ?_; refine ⟨fun h => absurd h (by decide), ?_⟩
    refine k_end (by kernel_rfl) ?_
    replace S := S.sub [(1, _), (3, _), (4, _), (5, _), (6, _), (15, _), (16, _), (17, _), (18, _), (8, _), (30, _)] rfl
    refine then_normal ?_
    refine wp_seq ?_
    have hxy : x.may = true := by first | exact h24 | simpa using h24
    obtain ⟨kb, hkb, hk32⟩ := may_block hxy
    have h0 : modeOf (h.take i) x.pl = 0 := by first | exact h30 | omega
    have hcl : ∀ f, cntP f (h.take i) (kb : Int) ≤ i := fun f => by have := cntP_le f (h.take i) (kb : Int); rw [List.length_take] at this; omega
    have hc1 := hcl fun _ => true
    have hc2 := hcl Lk.excl
    refine wp_region_lit ?_
    refine st_run [4, 1] S M rfl (by kernel_rfl) ?_; clear S a; intro a S
    rw [hkb] at S
    refine st_y S rfl rfl rfl (y_indexA (m := 32) (sz := 1) S (by kernel_rfl) rfl rfl (by first | omega | (simp; done) | (simp; omega))) ?_; clear S a; intro a S
    try simp only [Int.toNat_natCast, Nat.mul_one, Nat.zero_add] at S
    refine st_y S rfl rfl rfl (y_load S (by kernel_rfl) rfl (M.cell 4 rfl (icell_at (cnts_get _ _ hk32)))) ?_; clear S a; intro a S
    (first | refine st_y S rfl rfl rfl (y_addN S rfl rfl (by omega)) ?_ | refine st_y S rfl rfl rfl (y_int S rfl rfl rfl) ?_); clear S a; intro a S
    refine st_y S rfl rfl rfl (y_indexA (m := 32) (sz := 1) S (by kernel_rfl) rfl rfl (by first | omega | (simp; done) | (simp; omega))) ?_; clear S a; intro a S
    try simp only [Int.toNat_natCast, Nat.mul_one, Nat.zero_add] at S
    refine st_store (sz := 1) (us := [_]) S M 4 rfl (by kernel_rfl) rfl rfl rfl rfl rfl rfl (by simp [icells, cnts_len]; omega) ?_; clear M; intro w14 M
    simp only [List.set_cons_zero, List.set_cons_succ] at M
    refine nxA ?_
    refine st_run [5, 1] S M rfl (by kernel_rfl) ?_; clear S a; intro a S
    refine nxC ?_
    refine st_tils (t := 43) S rfl ?_ ?_
    · clear S; intro h43 S
      refine st_condF S rfl ?_
      refine wp_skip ?_
      refine block_normal ?_
      refine nxF ?_
      (first | refine st_y S rfl rfl rfl (y_addN S rfl rfl (by omega)) ?_ | refine st_y S rfl rfl rfl (y_int S rfl rfl rfl) ?_); clear S a; intro a S
      refine st_go [1] S rfl (by kernel_rfl) ?_; clear S a; intro a S
      refine nxC ?_
      skip
      replace M := M.drop 0
      simp only [List.eraseIdx_cons_succ, List.eraseIdx_cons_zero] at M
      have hk1 : kb < (cnts (fun _ => true) (h.take i)).length := by rw [cnts_len]; exact hk32
      have hk2 : kb < (cnts Lk.excl (h.take i)).length := by rw [cnts_len]; exact hk32
      rw [iput hk1, cnts_set hkb rfl, ← htk] at M
      have hmay2 : ∀ y ∈ h.take (i + 1), y.may = true := fun y hy => by
        rw [htk] at hy
        rcases List.mem_append.1 hy with hy | hy
        · exact hmay y hy
        · obtain rfl := List.mem_singleton.1 hy; exact hxy
      have hnd2 : ((h.take (i + 1)).map Lk.pl).Nodup := by rw [htk]; exact nodup_snoc hnd h0
      have hMI2 : MI (putM encP ml c x.pl (.int .i8 x.mode)).1 (h.take (i + 1)) := by rw [htk]; exact hMI.put h0
      first
        | (rw [iput hk2, cnts_set hkb h43, ← htk] at M
           exact ⟨h.length - (i + 1), by omega, i + 1, _, _, by omega, rfl, hG.put _ _, hMI2, hmay2, hnd2, S.sub _ rfl, M⟩)
        | (rw [← cnts_same (l := h.take i) h43, ← htk] at M
           exact ⟨h.length - (i + 1), by omega, i + 1, _, _, by omega, rfl, hG.put _ _, hMI2, hmay2, hnd2, S.sub _ rfl, M⟩)
    clear S; intro h43 S
    refine st_condT S rfl ?_
    refine wp_region_lit ?_
    refine st_run [4, 1] S M rfl (by kernel_rfl) ?_; clear S a; intro a S
    rw [hkb] at S
    refine st_y S rfl rfl rfl (y_indexA (m := 32) (sz := 1) S (by kernel_rfl) rfl rfl (by first | omega | (simp; done) | (simp; omega))) ?_; clear S a; intro a S
    try simp only [Int.toNat_natCast, Nat.mul_one, Nat.zero_add] at S
    refine st_y S rfl rfl rfl (y_load S (by kernel_rfl) rfl (M.cell 3 rfl (icell_at (cnts_get _ _ hk32)))) ?_; clear S a; intro a S
    (first | refine st_y S rfl rfl rfl (y_addN S rfl rfl (by omega)) ?_ | refine st_y S rfl rfl rfl (y_int S rfl rfl rfl) ?_); clear S a; intro a S
    refine st_y S rfl rfl rfl (y_indexA (m := 32) (sz := 1) S (by kernel_rfl) rfl rfl (by first | omega | (simp; done) | (simp; omega))) ?_; clear S a; intro a S
    try simp only [Int.toNat_natCast, Nat.mul_one, Nat.zero_add] at S
    refine st_store (sz := 1) (us := [_]) S M 3 rfl (by kernel_rfl) rfl rfl rfl rfl rfl rfl (by simp [icells, cnts_len]; omega) ?_; clear M; intro w15 M
    simp only [List.set_cons_zero, List.set_cons_succ] at M
    refine wpList_nil ?_
    refine block_normal ?_
    refine nxF ?_
    (first | refine st_y S rfl rfl rfl (y_addN S rfl rfl (by omega)) ?_ | refine st_y S rfl rfl rfl (y_int S rfl rfl rfl) ?_); clear S a; intro a S
    refine st_go [1] S rfl (by kernel_rfl) ?_; clear S a; intro a S
    replace S := S.sub [(1, _), (3, _), (4, _), (5, _), (6, _), (15, _), (16, _), (18, _), (8, _), (30, _), (43, _), (17, _)] rfl
    refine nxC ?_
    skip
    replace M := M.drop 0
    simp only [List.eraseIdx_cons_succ, List.eraseIdx_cons_zero] at M
    have hk1 : kb < (cnts (fun _ => true) (h.take i)).length := by rw [cnts_len]; exact hk32
    have hk2 : kb < (cnts Lk.excl (h.take i)).length := by rw [cnts_len]; exact hk32
    rw [iput hk1, cnts_set hkb rfl, ← htk] at M
    have hmay2 : ∀ y ∈ h.take (i + 1), y.may = true := fun y hy => by
      rw [htk] at hy
      rcases List.mem_append.1 hy with hy | hy
      · exact hmay y hy
      · obtain rfl := List.mem_singleton.1 hy; exact hxy
    have hnd2 : ((h.take (i + 1)).map Lk.pl).Nodup := by rw [htk]; exact nodup_snoc hnd h0
    have hMI2 : MI (putM encP ml c x.pl (.int .i8 x.mode)).1 (h.take (i + 1)) := by rw [htk]; exact hMI.put h0
    first
      | (rw [iput hk2, cnts_set hkb h43, ← htk] at M
         exact ⟨h.length - (i + 1), by omega, i + 1, _, _, by omega, rfl, hG.put _ _, hMI2, hmay2, hnd2, S.sub _ rfl, M⟩)
      | (rw [← cnts_same (l := h.take i) h43, ← htk] at M
         exact ⟨h.length - (i + 1), by omega, i + 1, _, _, by omega, rfl, hG.put _ _, hMI2, hmay2, hnd2, S.sub _ rfl, M⟩)
  clear S; intro h18 S
  refine st_condF S rfl ?_
  refine wp_exit ?_
  refine then_exit ?_
  refine then_exit ?_
  refine block_hit ?_
  refine then_normal ?_
  refine wp_seq ?_
  refine wp_seq ?_
  obtain rfl : i = h.length := by omega
  rw [List.take_length] at hMI hmay hnd M
  refine wp_region_lit ?_
  refine st_go [1] S rfl (by kernel_rfl) ?_; clear S a; intro a S
  refine nxC ?_
  refine wp_block ?_
  refine wp_loop_g (fun m a w' => ∃ (k : Nat), k ≤ 32 ∧ m = 32 - k ∧ (∀ q : Nat, q < k → 0 < cntP Lk.excl h (q : Int) → cntP (fun _ => true) h (q : Int) ≤ 1) ∧ Sees 95 a [(1, .pointer (some ⟨bT, 0, none⟩)), (3, .pointer (some ⟨bHO, 0, none⟩)), (4, .pointer (some ⟨bAL, 0, none⟩)), (5, .map (some bX)), (6, .map (some bY)), (51, .int .i64 (k : Int))] ∧ Mem w w' [mapX bY ([] : Mes Pl) 0, mapX bX ml c, .blk bAL (icells (cnts Lk.excl h)).toArray 75, .blk bHO (icells (cnts (fun _ => true) h)).toArray 75, .blk bT #[.slice ha h.length hc, .slice wa wt.length wc] 30]) (32) ?_ ?_
  · skip
    exact ⟨0, by omega, rfl, fun q hq => absurd hq (by omega), S.sub _ rfl, M⟩
  clear S M a; intro m a wl
  rintro ⟨k, hk, rfl, hal, S, M⟩
  refine nxD ?_
  refine st_go [1] S rfl (by kernel_rfl) ?_; clear S a; intro a S
  refine nxC ?_
  refine wp_seq ?_
  refine st_if (t := 52) S rfl ?_ ?_
  · clear S; intro h52 S
    refine st_condT S rfl ?_
    refine wp_skip ?_
    refine then_normal ?_
    refine wp_seq ?_
    refine wp_block ?_
    refine nxD ?_
    refine st_go [1, 1] S rfl (by kernel_rfl) ?_; clear S a; intro a S
    refine nxC ?_
    refine wp_seq ?_
    have hk32 : k < 32 := by omega
    refine wp_region_lit ?_
    refine st_go [1] S rfl (by kernel_rfl) ?_; clear S a; intro a S
    refine st_y S rfl rfl rfl (y_indexA (m := 32) (sz := 1) S (by kernel_rfl) rfl rfl (by first | omega | (simp; done) | (simp; omega))) ?_; clear S a; intro a S
    try simp only [Int.toNat_natCast, Nat.mul_one, Nat.zero_add] at S
    refine st_y S rfl rfl rfl (y_load S (by kernel_rfl) rfl (M.cell 2 rfl (icell_at (cnts_get _ _ hk32)))) ?_; clear S a; intro a S
    refine st_go [1, 1] S rfl (by kernel_rfl) ?_; clear S a; intro a S
    refine st_fi (t := 58) S rfl ?_ ?_
    · clear S; intro h58 S
      refine st_go [0, 0, 0, 0, 1] S rfl (by kernel_rfl) ?_; clear S a; intro a S
      refine nxC ?_
      refine st_condF S rfl ?_
      refine wp_skip ?_
      refine block_normal ?_
      refine nxF ?_
      (first | refine st_y S rfl rfl rfl (y_addN S rfl rfl (by omega)) ?_ | refine st_y S rfl rfl rfl (y_int S rfl rfl rfl) ?_); clear S a; intro a S
      refine st_go [1] S rfl (by kernel_rfl) ?_; clear S a; intro a S
      refine nxC ?_
      refine ⟨32 - (k + 1), by omega, k + 1, by omega, rfl, fun q hq h1 => ?_, S.sub _ rfl, M⟩
      rcases Nat.lt_or_ge q k with h | h
      · exact hal q h h1
      · obtain rfl : q = k := by omega
        omega
    clear S; intro h58 S
    refine st_go [1] S rfl (by kernel_rfl) ?_; clear S a; intro a S
    refine st_y S rfl rfl rfl (y_indexA (m := 32) (sz := 1) S (by kernel_rfl) rfl rfl (by first | omega | (simp; done) | (simp; omega))) ?_; clear S a; intro a S
    try simp only [Int.toNat_natCast, Nat.mul_one, Nat.zero_add] at S
    refine st_y S rfl rfl rfl (y_load S (by kernel_rfl) rfl (M.cell 3 rfl (icell_at (cnts_get _ _ hk32)))) ?_; clear S a; intro a S
    refine st_go [1, 1] S rfl (by kernel_rfl) ?_; clear S a; intro a S
    refine nxC ?_
    refine st_if (t := 63) S rfl ?_ ?_
    · clear S; intro h63 S
      refine st_condT S rfl ?_
      refine nxD ?_
      refine st_go [1] S rfl (by kernel_rfl) ?_; clear S a; intro a S
      refine nxC ?_
      refine wp_ret ?_
      refine block_ret ?_
      refine then_ret ?_
      refine then_ret ?_
      refine block_ret ?_
      refine then_ret ?_
      refine end_one S rfl (res_tmp rfl) ?_
      exact ⟨2, rfl, M.below, fun h' => absurd h' (by decide), fun O => by have := O.alone k hk32 (by omega); omega⟩
    clear S; intro h63 S
    refine st_condF S rfl ?_
    refine wp_skip ?_
    refine block_normal ?_
    refine nxF ?_
    (first | refine st_y S rfl rfl rfl (y_addN S rfl rfl (by omega)) ?_ | refine st_y S rfl rfl rfl (y_int S rfl rfl rfl) ?_); clear S a; intro a S
    refine st_go [1] S rfl (by kernel_rfl) ?_; clear S a; intro a S
    refine nxC ?_
    refine ⟨32 - (k + 1), by omega, k + 1, by omega, rfl, fun q hq h1 => ?_, S.sub _ rfl, M⟩
    rcases Nat.lt_or_ge q k with h | h
    · exact hal q h h1
    · obtain rfl : q = k := by omega
      omega
  clear S; intro h52 S
  refine st_condF S rfl ?_
  refine wp_exit ?_
  refine then_exit ?_
  refine then_exit ?_
  refine block_hit ?_
  refine then_normal ?_
  refine wp_seq ?_
  refine nxD ?_
  refine st_run [2, 5] S M rfl (by kernel_rfl) ?_; clear S a; intro a S
  refine st_y S rfl rfl rfl (y_lenS (E := 37) S rfl (by kernel_rfl)) ?_; clear S a; intro a S
  refine st_go [1] S rfl (by kernel_rfl) ?_; clear S a; intro a S
  refine nxC ?_
  refine wp_block ?_
  refine wp_loop_g (fun m a w' => ∃ (i : Nat) (my : Mes Pl) (d : Nat), i ≤ wt.length ∧ m = wt.length - i ∧ Good encP my d ∧ MI my (wt.take i) ∧ (∀ x ∈ wt.take i, x.may = true) ∧ ((wt.take i).map Lk.pl).Nodup ∧ (∀ x ∈ wt.take i, modeOf h x.pl ≠ 2) ∧ Sees 95 a [(5, .map (some bX)), (6, .map (some bY)), (66, .slice wa wt.length wc), (67, .int .i64 (wt.length : Int)), (68, .int .i64 (i : Int))] ∧ Mem w w' [mapX bY my d, mapX bX ml c]) (wt.length) ?_ ?_
  · skip
    replace M := M.drop 2
    simp only [List.eraseIdx_cons_succ, List.eraseIdx_cons_zero] at M
    replace M := M.drop 2
    simp only [List.eraseIdx_cons_succ, List.eraseIdx_cons_zero] at M
    replace M := M.drop 2
    simp only [List.eraseIdx_cons_succ, List.eraseIdx_cons_zero] at M
    exact ⟨0, [], 0, Nat.zero_le _, rfl, good_nil 0, fun p => rfl, fun x hx => (by simp at hx), by simp, fun x hx => (by simp at hx), S.sub _ rfl, M⟩
  clear S M a; intro m a wl
  rintro ⟨i2, my, d, hi2, rfl, hG2, hMI2, hmay2, hnd2, hex2, S, M⟩
  refine nxD ?_
  refine st_go [1] S rfl (by kernel_rfl) ?_; clear S a; intro a S
  refine nxC ?_
  refine wp_seq ?_
  refine st_fi (t := 69) S rfl ?_ ?_
  · clear S; intro h69 S
    refine st_condF S rfl ?_
    refine wp_exit ?_
    refine then_exit ?_
    refine then_exit ?_
    refine block_hit ?_
    refine nxE ?_
    refine st_go [1] S rfl (by kernel_rfl) ?_; clear S a; intro a S
    refine nxC ?_
    refine wp_ret ?_
    refine end_one S rfl (res_tmp rfl) ?_
    obtain rfl : i2 = wt.length := by omega
    rw [List.take_length] at hmay2 hnd2 hex2
    obtain rfl : k = 32 := by omega
    exact ⟨0, rfl, M.below, fun _ => ⟨hmay, hnd, hal, hmay2, hnd2, hex2⟩, fun _ => rfl⟩
  clear S; intro h69 S
  refine st_condT S rfl ?_
  refine wp_skip ?_
  refine then_normal ?_
  refine wp_seq ?_
  refine wp_block ?_
  refine wp_seq ?_
  obtain ⟨x, hx⟩ : ∃ x, wt[i2]? = some x := ⟨_, List.getElem?_eq_getElem (by omega)⟩
  have hxm := List.mem_of_getElem? hx
  have htk : wt.take (i2 + 1) = wt.take i2 ++ [x] := by rw [List.take_add_one, hx]; rfl
  refine wp_region_lit ?_
  refine st_y S rfl rfl rfl (y_indexR (e := 37) (sz := 5) S (by kernel_rfl) rfl ((M.arg hu)) rfl (by first | omega | (simp; done) | (simp; omega))) ?_; clear S a; intro a S
  try simp only [Int.toNat_natCast, Nat.mul_one, Nat.zero_add] at S
  refine st_y S rfl rfl rfl (y_loadAgg S (by kernel_rfl) rfl rfl ((M.arg hu).at_.row (i := i2) (lcells_get hx) rfl)) ?_; clear S a; intro a S
  refine st_alloc S M rfl rfl #[.int .i64 0, .int .i64 0, .int .i64 0, .int .i64 0, .bool false] (by kernel_rfl) ?_; clear S M a; intro a w16 bL S M hB
  refine st_store (sz := 5) (us := [_, _, _, _, _]) S M 0 rfl (by kernel_rfl) rfl rfl rfl rfl rfl rfl (by first | decide | (simp; done) | (simp; omega)) ?_; clear M; intro w17 M
  simp only [putL, List.set_cons_zero, List.set_cons_succ, Nat.reduceAdd] at M
  refine nxC ?_
  refine wp_seq ?_
  refine nxD ?_
  refine st_y S rfl rfl rfl (y_loadAgg (cs := [_, _, _, _, _]) S (by kernel_rfl) rfl rfl (M.cellsAt (k := 5) 0 rfl rfl)) ?_; clear S a; intro a S
  refine st_call (xs := [(Operand.tmp 72)]) S (enters_of Try.func15 (by decide) rfl) rfl rfl rfl (may_any x _) ?_
  rintro _ w18 ⟨rfl, hK⟩; refine ⟨_, rfl, ?_⟩; clear S a; intro a S; replace M := M.grow hK
  refine st_go [1, 1] S rfl (by kernel_rfl) ?_; clear S a; intro a S
  refine st_if (t := 75) S rfl ?_ ?_
  · clear S; intro h75 S
    refine st_go [0, 0, 0, 0] S rfl (by kernel_rfl) ?_; clear S a; intro a S
    refine st_no S rfl rfl rfl ?_; clear S a; intro a S
    refine st_go [1, 1, 0, 0, 0, 0] S rfl (by kernel_rfl) ?_; clear S a; intro a S
    refine st_no S rfl rfl rfl ?_; clear S a; intro a S
    refine st_go [1] S rfl (by kernel_rfl) ?_; clear S a; intro a S
    replace S := S.sub [(5, _), (6, _), (66, _), (67, _), (68, _), (69, _), (11, _), (88, _)] rfl
    refine nxC ?_
    refine st_condT S rfl ?_
    refine nxD ?_
    refine st_go [1] S rfl (by kernel_rfl) ?_; clear S a; intro a S
    refine nxC ?_
    refine wp_ret ?_
    refine then_ret ?_
    refine block_ret ?_
    refine then_ret ?_
    refine then_ret ?_
    refine block_ret ?_
    refine then_ret ?_
    refine end_one S rfl (res_tmp rfl) ?_
    refine ⟨2, rfl, M.below, fun h' => absurd h' (by decide), fun O => ?_⟩
    exfalso
    first
      | (have := dup_no O.wnodup hx; omega)
      | (have := O.wexcl x hxm; omega)
      | (have := O.wmay x hxm; simp_all; done)
  clear S; intro h75 S
  refine st_go [1] S rfl (by kernel_rfl) ?_; clear S a; intro a S
  refine st_y S rfl rfl rfl (y_loadAgg (cs := [_, _, _, _, _]) S (by kernel_rfl) rfl rfl (M.cellsAt (k := 5) 0 rfl rfl)) ?_; clear S a; intro a S
  refine st_call (xs := [(Operand.tmp 77)]) S (enters_of Try.func19 (by decide) rfl) rfl rfl rfl (at_any x _) ?_
  rintro _ w19 ⟨rfl, hK⟩; refine ⟨_, rfl, ?_⟩; clear S a; intro a S; replace M := M.grow hK
  refine st_y S rfl rfl rfl (y_lookupM (pos := 1) S M (keyP) (hG2) Try.underlying72 (zero_i8) rfl rfl rfl) ?_; clear S a; intro a S
  simp only [Bool.false_eq_true, if_false, hMI2 x.pl] at S
  refine st_y S rfl rfl rfl (y_int S rfl rfl rfl) ?_; clear S a; intro a S
  refine st_go [1, 1] S rfl (by kernel_rfl) ?_; clear S a; intro a S
  refine st_if (t := 82) S rfl ?_ ?_
  · clear S; intro h82 S
    refine st_go [0, 0, 0, 0] S rfl (by kernel_rfl) ?_; clear S a; intro a S
    refine st_no S rfl rfl rfl ?_; clear S a; intro a S
    refine st_go [1] S rfl (by kernel_rfl) ?_; clear S a; intro a S
    replace S := S.sub [(5, _), (6, _), (66, _), (67, _), (68, _), (69, _), (11, _), (88, _)] rfl
    refine nxC ?_
    refine st_condT S rfl ?_
    refine nxD ?_
    refine st_go [1] S rfl (by kernel_rfl) ?_; clear S a; intro a S
    refine nxC ?_
    refine wp_ret ?_
    refine then_ret ?_
    refine block_ret ?_
    refine then_ret ?_
    refine then_ret ?_
    refine block_ret ?_
    refine then_ret ?_
    refine end_one S rfl (res_tmp rfl) ?_
    refine ⟨2, rfl, M.below, fun h' => absurd h' (by decide), fun O => ?_⟩
    exfalso
    first
      | (have := dup_no O.wnodup hx; omega)
      | (have := O.wexcl x hxm; omega)
      | (have := O.wmay x hxm; simp_all; done)
  clear S; intro h82 S
  refine st_go [1] S rfl (by kernel_rfl) ?_; clear S a; intro a S
  refine st_y S rfl rfl rfl (y_loadAgg (cs := [_, _, _, _, _]) S (by kernel_rfl) rfl rfl (M.cellsAt (k := 5) 0 rfl rfl)) ?_; clear S a; intro a S
  refine st_call (xs := [(Operand.tmp 84)]) S (enters_of Try.func19 (by decide) rfl) rfl rfl rfl (at_any x _) ?_
  rintro _ w20 ⟨rfl, hK⟩; refine ⟨_, rfl, ?_⟩; clear S a; intro a S; replace M := M.grow hK
  refine st_y S rfl rfl rfl (y_lookupM (pos := 2) S M (keyP) (hG) Try.underlying72 (zero_i8) rfl rfl rfl) ?_; clear S a; intro a S
  simp only [Bool.false_eq_true, if_false, hMI x.pl] at S
  refine st_y S rfl rfl rfl (y_int S rfl rfl rfl) ?_; clear S a; intro a S
  refine st_go [1] S rfl (by kernel_rfl) ?_; clear S a; intro a S
  replace S := S.sub [(5, _), (6, _), (66, _), (67, _), (68, _), (69, _), (11, _), (88, _)] rfl
  refine nxC ?_
  refine st_if (t := 88) S rfl ?_ ?_
  · clear S; intro h88 S
    refine st_condT S rfl ?_
    refine nxD ?_
    refine st_go [1] S rfl (by kernel_rfl) ?_; clear S a; intro a S
    refine nxC ?_
    refine wp_ret ?_
    refine then_ret ?_
    refine block_ret ?_
    refine then_ret ?_
    refine then_ret ?_
    refine block_ret ?_
    refine then_ret ?_
    refine end_one S rfl (res_tmp rfl) ?_
    refine ⟨2, rfl, M.below, fun h' => absurd h' (by decide), fun O => ?_⟩
    exfalso
    first
      | (have := dup_no O.wnodup hx; omega)
      | (have := O.wexcl x hxm; omega)
      | (have := O.wmay x hxm; simp_all; done)
  clear S; intro h88 S
  refine st_condF S rfl ?_
  refine wp_skip ?_
  refine then_normal ?_
  refine wp_regionK [5] #[false, false, false, false, false, false] rfl M (by kernel_rfl) ?_; clear M; intro w21 M
  refine k_pure (listed' := #[true, false, false, false, false, false]) 0 S rfl rfl rfl rfl (by kernel_rfl) rfl (fun _ d _ _ _ h => by cases d <;> exact h) (fun w => y_move S rfl) ?_; clear S a; intro a S
  refine k_read (listed' := #[true, true, false, false, false, false]) 1 S rfl rfl rfl rfl (by kernel_rfl) rfl (fun _ d _ _ _ h => by cases d <;> exact h) (fun w hW => have M := M.grow hW; y_loadAgg (cs := [_, _, _, _, _]) S (by kernel_rfl) rfl rfl (M.cellsAt (k := 5) 0 rfl rfl)) ?_; clear S a; intro a S
  refine k_read (listed' := #[true, true, false, true, false, false]) 3 S rfl rfl rfl rfl (by kernel_rfl) rfl (fun _ d _ _ _ h => by cases d <;> exact h) (fun w hW => have M := M.grow hW; y_loadAgg (cs := [_, _, _, _, _]) S (by kernel_rfl) rfl rfl (M.cellsAt (k := 5) 0 rfl rfl)) ?_; clear S a; intro a S
  refine k_one (listed' := #[true, true, true, true, false, false]) 2 rfl (by kernel_rfl) rfl ?_
  refine st_call (xs := [(Operand.tmp 90)]) S (enters_of Try.func19 (by decide) rfl) rfl rfl rfl (at_any x _) ?_
  rintro _ w22 ⟨rfl, hK⟩; refine ⟨_, rfl, ?_⟩; clear S a; intro a S; replace M := M.grow hK
  refine wpList_nil ?_; refine then_normal ?_; refine ⟨fun _ => hK, ?_⟩
  refine k_one (listed' := #[true, true, true, true, true, false]) 4 rfl (by kernel_rfl) rfl ?_
  refine st_call (xs := [(Operand.tmp 92)]) S (enters_of Try.func26 (by decide) rfl) rfl rfl rfl (mode_any x _) ?_
  rintro _ w23 ⟨rfl, hK⟩; refine ⟨_, rfl, ?_⟩; clear S a; intro a S; replace M := M.grow hK
  refine wpList_nil ?_; refine then_normal ?_; refine ⟨fun _ => hK, ?_⟩
  refine k_one (listed' := #[true, true, true, true, true, true]) 5 rfl (by kernel_rfl) rfl ?_
  refine st_updateM (pos := 1) S M (keyP) (hG2) Try.underlying72 rfl rfl rfl rfl rfl ?_; clear M; intro w24 M
  simp only [List.set_cons_zero, List.set_cons_succ] at M
  refine wpList_nil ?_; refine then_normal ?_; refine ⟨fun h => absurd h (by decide), ?_⟩
  refine k_end (by kernel_rfl) ?_
  refine block_normal ?_
  refine nxF ?_
  (first | refine st_y S rfl rfl rfl (y_addN S rfl rfl (by omega)) ?_ | refine st_y S rfl rfl rfl (y_int S rfl rfl rfl) ?_); clear S a; intro a S
  refine st_go [1] S rfl (by kernel_rfl) ?_; clear S a; intro a S
  refine nxC ?_
  skip
  replace M := M.drop 0
  simp only [List.eraseIdx_cons_succ, List.eraseIdx_cons_zero] at M
  have hxy : x.may = true := by first | exact h75 | simpa using h75
  have h0 : modeOf (wt.take i2) x.pl = 0 := by first | exact h82 | omega
  have h1 : modeOf h x.pl ≠ 2 := by first | exact h88 | omega
  refine ⟨wt.length - (i2 + 1), by omega, i2 + 1, _, _, by omega, rfl, hG2.put _ _, by rw [htk]; exact hMI2.put h0, fun y hy => ?_, by rw [htk]; exact nodup_snoc hnd2 h0, fun y hy => ?_, S.sub _ rfl, M⟩
  · rw [htk] at hy
    rcases List.mem_append.1 hy with hy | hy
    · exact hmay2 y hy
    · obtain rfl := List.mem_singleton.1 hy; exact hxy
  · rw [htk] at hy
    rcases List.mem_append.1 hy with hy | hy
    · exact hex2 y hy
    · obtain rfl := List.mem_singleton.1 hy; exact h1

end Go.Proofs.Ytcbofgcmfkcglaa
