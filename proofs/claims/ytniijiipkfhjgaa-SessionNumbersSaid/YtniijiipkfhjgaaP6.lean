/-
  What SessionNumbers rests on, part 6.
-/
import Derived.Test.YtniijiipkfhjgaaP5
namespace Go.Proofs.Ytniijiipkfhjgaa
open Go.RowKit Go.Sort
section
variable {ds : List Deferred} {κ : Type}
theorem st_makeMapN {P : Program} {ops : Array Oper} {Q : Exit → Act → World → Prop} {rest : List Oper} {n : Nat} {a : Act} {L : List (Nat × Value)} {w w0 : World} {H : List Ent} {t kt et : TypeId} {x : Operand} {ki : IntKind} {i : Int} (S : SeesD ds n a L) (M : Mem w0 w H) (ht : P.underlying t = some (.map kt et)) (hx : val L x = some (.int ki i)) {d : Nat} {ty : TypeId} {p : String} {e : Array Edge} {g : Option (Nat × Bool)} (hg : gd ops L ⟨some d, .makeMap t (some x), ty, p, e, g⟩ = some true) (hn : Nat.blt d n = true)
    (k : ∀ a w' b, SeesD ds n a ((d, .map (some b)) :: L) → Mem w0 w' (mapX b ([] : Mes κ) 0 :: H) → Below w.heap.size w w' → wpList P ops Q rest a w') : wpList P ops Q (⟨some d, .makeMap t (some x), ty, p, e, g⟩ :: rest) a w := by
  refine st_w (v := .map (some w.heap.size)) (w' := w.alloc (.map #[] 0)) S hg rfl hn ?_ fun a S => k a _ w.heap.size S ?_ (ext_alloc (ext_refl _) _)
  · unfold execOp
    simp only [Option.map_some, S.eval hx, Sem.run_bind, Instr.makeMap, run_underlying ht, Result.andThen]
    simp [newObj, Sem.run, go_sem, asInt]
  · refine M.push (ext_alloc (ext_refl _) _) _ (fun W' hs => ?_) (Nat.le_refl _) (by simp [Ent.hi])
    show W'.heap[w.heap.size]? = _
    rw [hs w.heap.size (Nat.le_refl _) (Nat.lt_succ_self _)]; exact World.alloc_heap_new w _
variable {enc : κ → Value} [DecidableEq κ]
theorem get_put (l : Mes κ) (c : Nat) (k k' : κ) (v : Value) : getM (putM enc l c k v).1 k' = if k' = k then some v else getM l k' := by
  unfold putM
  split
  · rename_i hk
    unfold getM setM
    rw [List.find?_map]
    have e : ((fun p : κ × MapEntry => decide (p.1 = k')) ∘ fun p : κ × MapEntry => if p.1 = k then (p.1, { p.2 with val := v }) else p) = fun p => decide (p.1 = k') := by
      funext p; simp only [Function.comp]; split <;> rfl
    rw [e]
    by_cases h : k' = k
    · subst h
      rw [if_pos rfl]
      obtain ⟨p, hp, hpk⟩ := List.mem_map.1 hk
      cases hf : l.find? (fun p => decide (p.1 = k')) with
      | none =>
        rw [List.find?_eq_none] at hf
        exact absurd (by simpa using hpk) (hf p hp)
      | some q =>
        have := List.find?_some hf
        simp only [decide_eq_true_eq] at this
        simp [this]
    · rw [if_neg h]
      cases hf : l.find? (fun p => decide (p.1 = k')) with
      | none => rfl
      | some q =>
        have := List.find?_some hf
        simp only [decide_eq_true_eq] at this
        have h2 : ¬ q.1 = k := fun e => h (this.symm.trans e)
        simp [h2]
  · rename_i hk
    unfold getM
    rw [List.find?_append]
    by_cases h : k' = k
    · subst h
      rw [if_pos rfl]
      have : l.find? (fun p => decide (p.1 = k')) = none := by
        rw [List.find?_eq_none]
        intro p hp e
        simp only [decide_eq_true_eq] at e
        exact hk (by rw [← e]; exact List.mem_map_of_mem hp)
      rw [this]; simp
    · rw [if_neg h]
      have h2 : ¬ k = k' := fun e => h e.symm
      cases hf : l.find? (fun p => decide (p.1 = k')) <;> simp [h2]
end
abbrev eN : Int → Value := fun z => .int .i64 z
theorem keyN : KeyT Try.prog 3 eN := key_int Try.underlying3
set_option maxRecDepth 100000 in
theorem zero_i64 (w : World) : (zeroValue 3).run Try.prog w = .ok (.int .i64 0) w := by
  obtain ⟨i, hi, hz⟩ : ∃ i, Try.prog.info? 3 = some i ∧ i.zero = some (.int .i64 0) := by
    refine ⟨_, rfl, ?_⟩
    kernel_rfl
  simp [zeroValue, typeInfo, hi, hz, go_sem]
/-- a map that counts -/
def CV (ml : Mes Int) (f : Int → Int) : Prop := ∀ k, (getM ml k).getD (.int .i64 0) = .int .i64 (f k)
theorem CV.put {ml : Mes Int} {f : Int → Int} {c : Nat} (h : CV ml f) (k v : Int) : CV (putM eN ml c k (.int .i64 v)).1 (fun z => if z = k then v else f z) := by
  intro z
  rw [get_put]
  by_cases e : z = k
  · rw [if_pos e]; simp only [if_pos e]; rfl
  · rw [if_neg e, h z]; simp only [if_neg e]
def cntI (l : List Int) (k : Int) : Int := ((l.filter (· == k)).length : Int)
theorem cntI_snoc (l : List Int) (x k : Int) : cntI (l ++ [x]) k = if k = x then cntI l x + 1 else cntI l k := by
  unfold cntI
  rw [List.filter_append, List.length_append]
  by_cases h : k = x
  · subst h; simp
  · have : ¬ x = k := fun e => h e.symm
    simp [h, this]
theorem cntI_bd (l : List Int) (k : Int) : 0 ≤ cntI l k ∧ cntI l k ≤ l.length := by
  unfold cntI
  have := List.length_filter_le (· == k) l
  omega
theorem cntI_mem {l : List Int} {k : Int} : cntI l k ≠ 0 ↔ k ∈ l := by
  unfold cntI
  constructor
  · intro h
    have h1 : 0 < (l.filter (· == k)).length := by omega
    obtain ⟨y, hy⟩ := List.exists_mem_of_length_pos h1
    rw [List.mem_filter, beq_iff_eq] at hy
    exact hy.2 ▸ hy.1
  · intro h
    have : k ∈ l.filter (· == k) := by rw [List.mem_filter]; exact ⟨h, by simp⟩
    have := List.length_pos_of_mem this
    omega
theorem CV.snoc {ml : Mes Int} {l : List Int} {c : Nat} (h : CV ml (cntI l)) (x : Int) : CV (putM eN ml c x (.int .i64 (cntI l x + 1))).1 (cntI (l ++ [x])) := by
  intro z
  rw [h.put x _ z, cntI_snoc]
theorem cnt_ex {α : Type} {f : α → Int} {l : List α} {k : Nat} {z : Int} (h : cntI ((l.take k).map f) z ≠ 0) : ∃ (j : Nat) (p : α), j < k ∧ l[j]? = some p ∧ f p = z := by
  obtain ⟨p, hp, rfl⟩ := List.mem_map.1 (cntI_mem.1 h)
  obtain ⟨j, hj⟩ := List.getElem?_of_mem hp
  rw [List.getElem?_take] at hj
  split at hj
  · exact ⟨j, p, ‹_›, hj, rfl⟩
  · cases hj
theorem cnt_no {α : Type} {f : α → Int} {l : List α} {k : Nat} {z : Int} (h : cntI ((l.take k).map f) z = 0) {j : Nat} {p : α} (hj : j < k) (hp : l[j]? = some p) : f p ≠ z := by
  intro e
  refine absurd h (cntI_mem.2 (List.mem_map.2 ⟨p, ?_, e⟩))
  exact List.mem_of_getElem? (i := j) (by rw [List.getElem?_take, if_pos hj]; exact hp)
/-- the handle ahead -/
def prevH (l : List Ope) : Nat → Int
  | 0 => 0
  | k + 1 => match l[k]? with | some o => o.h | none => 0
def OpOk (s : Ses) (i : Nat) (o : Ope) : Prop := prevH s.l i < o.h ∧ o.h ≤ s.last ∧ (∀ (j : Nat) (p : Ope), j < i → s.l[j]? = some p → p.nm.stamp ≠ o.nm.stamp) ∧ o.may s.inc = true
def EndOk (s : Ses) (x : End_) : Prop := (1 ≤ x.h ∧ x.h ≤ s.last) ∧ (∀ o ∈ s.l, o.h ≠ x.h) ∧ (1 ≤ x.c ∧ x.c ≤ 1048576) ∧ (⟨x.stamp, s.inc, x.try_⟩ : Nm).named = true
/-- may a session be? -/
structure Ses.May (s : Ses) : Prop where
  inc : 1 ≤ s.inc ∧ s.inc ≤ 1048576
  last : 0 ≤ s.last ∧ s.last ≤ 1099511627776
  len : s.l.length ≤ 8
  ops : ∀ (i : Nat) (o : Ope), s.l[i]? = some o → OpOk s i o
  ends : ∀ x ∈ s.over, EndOk s x
theorem take_map_snoc {α β : Type} (f : α → β) {l : List α} {k : Nat} {x : α} (h : l[k]? = some x) : (l.take (k + 1)).map f = (l.take k).map f ++ [f x] := by
  rw [List.take_add_one, h]; simp
set_option maxHeartbeats 4000000 in
theorem check_any (s : Ses) (va oa : Option Addr) (vc oc : Nat) (w : World) (hv : Rd 0 w.heap.size w 37 (.slice va s.l.length vc) s.l.length (fm Ope.cellsL s.l)) (ho : Rd 0 w.heap.size w 5 (.slice oa s.over.length oc) s.over.length (fm End_.cellsL s.over)) (hsh : ∀ o ∈ s.l, ShOk o.sh) :
    Calls Try.prog 16 #[.agg #[.slice va s.l.length vc, .int .i64 s.last, .int .i64 s.inc, .slice oa s.over.length oc]] w fun e w' => ∃ r, e = .returned (.int .i64 r) ∧ Below w.heap.size w w' ∧ (r = 0 ∧ s.May ∨ r = 2 ∧ ¬ s.May) := by
  have M := Mem.start w
  have hvl := hv.2.1
  have hol := ho.2.1
  unfold maxLen at hvl hol
  refine calls_enter Try.func16 rfl 129 rfl rfl ?_; intro a S
  refine nxD ?_
  refine st_box S M rfl rfl rfl #[_, _, _, _] rfl ?_; clear S M a; intro a w1 bB S M hB
  refine st_go [1] S rfl (by kernel_rfl) ?_; clear S a; intro a S
  refine nxC ?_
  refine wp_seq ?_
  refine nxD ?_
  refine st_run [3, 1, 1, 1] S M rfl (by kernel_rfl) ?_; clear S a; intro a S
  refine st_if (t := 13) S rfl ?_ ?_
  · clear S; intro h13 S
    refine st_go [0, 0, 0, 1, 1, 0, 0, 0, 1, 1, 0, 0, 0, 1, 1, 0, 0, 0, 0, 1] S rfl (by kernel_rfl) ?_; clear S a; intro a S
    replace S := S.sub [(0, _), (1, _), (2, _), (33, _)] rfl
    refine nxC ?_
    refine st_condT S rfl ?_
    refine nxD ?_
    refine st_go [1] S rfl (by kernel_rfl) ?_; clear S a; intro a S
    refine nxC ?_
    refine wp_ret ?_
    refine then_ret ?_
    refine end_one S rfl (res_tmp rfl) ?_
    refine ⟨2, rfl, M.below, .inr ⟨rfl, fun h => ?_⟩⟩
    have h1 := h.inc
    have h2 := h.last
    have h3 := h.len
    omega
  clear S; intro h13 S
  refine st_run [3, 1, 1, 1, 1] S M rfl (by kernel_rfl) ?_; clear S a; intro a S
  refine st_if (t := 18) S rfl ?_ ?_
  · clear S; intro h18 S
    refine st_go [0, 0, 0, 1, 1, 0, 0, 0, 1, 1, 0, 0, 0, 0, 1] S rfl (by kernel_rfl) ?_; clear S a; intro a S
    replace S := S.sub [(0, _), (1, _), (2, _), (33, _)] rfl
    refine nxC ?_
    refine st_condT S rfl ?_
    refine nxD ?_
    refine st_go [1] S rfl (by kernel_rfl) ?_; clear S a; intro a S
    refine nxC ?_
    refine wp_ret ?_
    refine then_ret ?_
    refine end_one S rfl (res_tmp rfl) ?_
    refine ⟨2, rfl, M.below, .inr ⟨rfl, fun h => ?_⟩⟩
    have h1 := h.inc
    have h2 := h.last
    have h3 := h.len
    omega
  clear S; intro h18 S
  refine st_run [2, 1, 1, 1, 1] S M rfl (by kernel_rfl) ?_; clear S a; intro a S
  refine st_if (t := 23) S rfl ?_ ?_
  · clear S; intro h23 S
    refine st_go [0, 0, 0, 1, 1, 0, 0, 0, 0, 1] S rfl (by kernel_rfl) ?_; clear S a; intro a S
    replace S := S.sub [(0, _), (1, _), (2, _), (33, _)] rfl
    refine nxC ?_
    refine st_condT S rfl ?_
    refine nxD ?_
    refine st_go [1] S rfl (by kernel_rfl) ?_; clear S a; intro a S
    refine nxC ?_
    refine wp_ret ?_
    refine then_ret ?_
    refine end_one S rfl (res_tmp rfl) ?_
    refine ⟨2, rfl, M.below, .inr ⟨rfl, fun h => ?_⟩⟩
    have h1 := h.inc
    have h2 := h.last
    have h3 := h.len
    omega
  clear S; intro h23 S
  refine st_run [2, 1, 1, 1, 1] S M rfl (by kernel_rfl) ?_; clear S a; intro a S
  refine st_if (t := 28) S rfl ?_ ?_
  · clear S; intro h28 S
    refine st_go [0, 0, 0, 0, 1] S rfl (by kernel_rfl) ?_; clear S a; intro a S
    replace S := S.sub [(0, _), (1, _), (2, _), (33, _)] rfl
    refine nxC ?_
    refine st_condT S rfl ?_
    refine nxD ?_
    refine st_go [1] S rfl (by kernel_rfl) ?_; clear S a; intro a S
    refine nxC ?_
    refine wp_ret ?_
    refine then_ret ?_
    refine end_one S rfl (res_tmp rfl) ?_
    refine ⟨2, rfl, M.below, .inr ⟨rfl, fun h => ?_⟩⟩
    have h1 := h.inc
    have h2 := h.last
    have h3 := h.len
    omega
  clear S; intro h28 S
  refine st_run [1, 1] S M rfl (by kernel_rfl) ?_; clear S a; intro a S
  refine st_y S rfl rfl rfl (y_lenS (E := 65) S rfl (by kernel_rfl)) ?_; clear S a; intro a S
  refine st_go [1, 1] S rfl (by kernel_rfl) ?_; clear S a; intro a S
  replace S := S.sub [(0, _), (1, _), (2, _), (33, _)] rfl
  refine nxC ?_
  refine st_if (t := 33) S rfl ?_ ?_
  · clear S; intro h33 S
    refine st_condT S rfl ?_
    refine nxD ?_
    refine st_go [1] S rfl (by kernel_rfl) ?_; clear S a; intro a S
    refine nxC ?_
    refine wp_ret ?_
    refine then_ret ?_
    refine end_one S rfl (res_tmp rfl) ?_
    refine ⟨2, rfl, M.below, .inr ⟨rfl, fun h => ?_⟩⟩
    have h1 := h.inc
    have h2 := h.last
    have h3 := h.len
    omega
  clear S; intro h33 S
  refine st_condF S rfl ?_
  refine wp_skip ?_
  refine nxE ?_
  refine st_run [1, 1] S M rfl (by kernel_rfl) ?_; clear S a; intro a S
  refine st_y S rfl rfl rfl (y_lenS (E := 65) S rfl (by kernel_rfl)) ?_; clear S a; intro a S
  refine st_makeMapN (κ := Int) S M Try.underlying34 rfl rfl rfl ?_; clear S M a; intro a w2 bO S M hB
  refine st_go [1] S rfl (by kernel_rfl) ?_; clear S a; intro a S
  refine nxA ?_
  refine st_run [1, 2] S M rfl (by kernel_rfl) ?_; clear S a; intro a S
  refine st_y S rfl rfl rfl (y_lenS (E := 65) S rfl (by kernel_rfl)) ?_; clear S a; intro a S
  refine st_makeMapN (κ := Int) S M Try.underlying34 rfl rfl rfl ?_; clear S M a; intro a w3 bS S M hB
  refine st_go [1] S rfl (by kernel_rfl) ?_; clear S a; intro a S
  refine nxA ?_
  refine st_go [1] S rfl (by kernel_rfl) ?_; clear S a; intro a S
  refine nxC ?_
  refine wp_seq ?_
  refine nxD ?_
  refine st_run [1, 3] S M rfl (by kernel_rfl) ?_; clear S a; intro a S
  refine st_y S rfl rfl rfl (y_lenS (E := 65) S rfl (by kernel_rfl)) ?_; clear S a; intro a S
  refine st_go [1] S rfl (by kernel_rfl) ?_; clear S a; intro a S
  refine nxC ?_
  refine wp_block ?_
  refine wp_loop_g (fun m a w' => ∃ (k : Nat) (mo ms : Mes Int) (co cs : Nat), k ≤ s.l.length ∧ m = s.l.length - k ∧ Good eN mo co ∧ Good eN ms cs ∧ CV mo (cntI ((s.l.take k).map Ope.h)) ∧ CV ms (cntI ((s.l.take k).map fun o => o.nm.stamp)) ∧ (∀ (i : Nat) (o : Ope), i < k → s.l[i]? = some o → OpOk s i o) ∧ Sees 129 a [(1, .pointer (some ⟨bB, 0, none⟩)), (3, .map (some bO)), (4, .map (some bS)), (5, .int .i64 (prevH s.l k)), (43, .slice va s.l.length vc), (44, .int .i64 (s.l.length : Int)), (45, .int .i64 (k : Int))] ∧ Mem w w' [mapX bS ms cs, mapX bO mo co, .blk bB #[.slice va s.l.length vc, .int .i64 s.last, .int .i64 s.inc, .slice oa s.over.length oc] 29]) (s.l.length) ?_ ?_
  · skip
    exact ⟨0, [], [], 0, 0, Nat.zero_le _, rfl, good_nil 0, good_nil 0, fun k => rfl, fun k => rfl, fun i o h => absurd h (by omega), S.sub _ rfl, M⟩
  clear S M a; intro m a wl
  rintro ⟨k, mo, ms, co, cs, hk, rfl, hGo, hGs, hCO, hCS, hpre, S, M⟩
  refine nxD ?_
  refine st_go [1] S rfl (by kernel_rfl) ?_; clear S a; intro a S
  refine nxC ?_
  refine wp_seq ?_
  refine st_if (t := 46) S rfl ?_ ?_
  · clear S; intro h46 S
    refine st_condT S rfl ?_
    refine wp_skip ?_
    refine then_normal ?_
    refine wp_seq ?_
    refine wp_block ?_
    refine wp_seq ?_
    obtain ⟨q, hq⟩ : ∃ q, s.l[k]? = some q := ⟨_, List.getElem?_eq_getElem (by omega)⟩
    have hqm := List.mem_of_getElem? hq
    refine wp_region_lit ?_
    refine st_y S rfl rfl rfl (y_indexR (e := 65) (sz := 37) S (by kernel_rfl) rfl ((M.arg hv)) rfl (by first | omega | (simp; done) | (simp; omega))) ?_; clear S a; intro a S
    try simp only [Int.toNat_natCast, Nat.mul_one, Nat.zero_add] at S
    refine st_y S rfl rfl rfl (y_loadAgg S (by kernel_rfl) rfl rfl ((M.arg hv).at_.row (i := k) (fm_get len_ope hq) rfl)) ?_; clear S a; intro a S
    refine st_alloc S M rfl rfl #[.int .i64 0, .int .i64 0, .int .i64 0, .int .i64 0, .int .i64 0, .int .i8 0, .int .i64 0, .int .i64 0, .int .i64 0, .int .i64 0, .int .i64 0, .int .i64 0, .int .i64 0, .int .i8 0, .int .i64 0, .int .i64 0, .int .i64 0, .int .i64 0, .int .i64 0, .int .i64 0, .int .i64 0, .int .i64 0, .int .i8 0, .int .i64 0, .int .u8 0, .int .u8 0, .int .u8 0, .int .u8 0, .int .u8 0, .int .u8 0, .int .u8 0, .int .u8 0, .int .i64 0, .bool false, .int .i64 0, .int .i64 0, .slice none 0 0] (by kernel_rfl) ?_; clear S M a; intro a w4 bX S M hB
    refine st_store (sz := 37) (us := [_, _, _, _, _, _, _, _, _, _, _, _, _, _, _, _, _, _, _, _, _, _, _, _, _, _, _, _, _, _, _, _, _, _, _, _, _]) S M 0 rfl (by kernel_rfl) rfl rfl rfl rfl rfl rfl (by first | decide | (simp; done) | (simp; omega)) ?_; clear M; intro w5 M
    simp only [putL, List.set_cons_zero, List.set_cons_succ, Nat.reduceAdd] at M
    refine nxC ?_
    refine wp_seq ?_
    refine nxD ?_
    refine st_run [1, 1, 1, 1, 1] S M rfl (by kernel_rfl) ?_; clear S a; intro a S
    refine st_if (t := 53) S rfl ?_ ?_
    · clear S; intro h53 S
      refine st_go [0, 0, 0, 0, 0, 1, 1, 0, 0, 0, 0, 0] S rfl (by kernel_rfl) ?_; clear S a; intro a S
      refine st_no S rfl rfl rfl ?_; clear S a; intro a S
      refine st_go [1, 1, 0, 0, 0, 0, 0, 1] S rfl (by kernel_rfl) ?_; clear S a; intro a S
      replace S := S.sub [(1, _), (3, _), (4, _), (5, _), (43, _), (44, _), (45, _), (46, _), (7, _), (74, _)] rfl
      refine nxC ?_
      refine st_condT S rfl ?_
      refine nxD ?_
      refine st_go [1] S rfl (by kernel_rfl) ?_; clear S a; intro a S
      refine nxC ?_
      refine wp_ret ?_
      refine then_ret ?_
      refine block_ret ?_
      refine then_ret ?_
      refine then_ret ?_
      refine block_ret ?_
      refine then_ret ?_
      refine end_one S rfl (res_tmp rfl) ?_
      refine ⟨2, rfl, M.below, .inr ⟨rfl, fun h => ?_⟩⟩
      obtain ⟨h1, h2, h3, h4⟩ := h.ops k q hq
      first
        | omega
        | (have hc : cntI ((s.l.take k).map fun o => o.nm.stamp) q.nm.stamp ≠ 0 := by assumption
           obtain ⟨j, p, hj, hp, he⟩ := cnt_ex hc
           exact h3 j p hj hp he)
        | (have hc : q.may s.inc = false := by assumption
           rw [hc] at h4; exact absurd h4 (by decide))
    clear S; intro h53 S
    refine st_run [1, 1, 2, 4, 1, 1, 1] S M rfl (by kernel_rfl) ?_; clear S a; intro a S
    refine st_if (t := 60) S rfl ?_ ?_
    · clear S; intro h60 S
      refine st_go [0, 0, 0, 0, 0] S rfl (by kernel_rfl) ?_; clear S a; intro a S
      refine st_no S rfl rfl rfl ?_; clear S a; intro a S
      refine st_go [1, 1, 0, 0, 0, 0, 0, 1] S rfl (by kernel_rfl) ?_; clear S a; intro a S
      replace S := S.sub [(1, _), (3, _), (4, _), (5, _), (43, _), (44, _), (45, _), (46, _), (7, _), (74, _)] rfl
      refine nxC ?_
      refine st_condT S rfl ?_
      refine nxD ?_
      refine st_go [1] S rfl (by kernel_rfl) ?_; clear S a; intro a S
      refine nxC ?_
      refine wp_ret ?_
      refine then_ret ?_
      refine block_ret ?_
      refine then_ret ?_
      refine then_ret ?_
      refine block_ret ?_
      refine then_ret ?_
      refine end_one S rfl (res_tmp rfl) ?_
      refine ⟨2, rfl, M.below, .inr ⟨rfl, fun h => ?_⟩⟩
      obtain ⟨h1, h2, h3, h4⟩ := h.ops k q hq
      first
        | omega
        | (have hc : cntI ((s.l.take k).map fun o => o.nm.stamp) q.nm.stamp ≠ 0 := by assumption
           obtain ⟨j, p, hj, hp, he⟩ := cnt_ex hc
           exact h3 j p hj hp he)
        | (have hc : q.may s.inc = false := by assumption
           rw [hc] at h4; exact absurd h4 (by decide))
    clear S; intro h60 S
    refine st_run [1, 3, 1, 1] S M rfl (by kernel_rfl) ?_; clear S a; intro a S
    refine st_y S rfl rfl rfl (y_lookupM (pos := 1) S M (keyN) (hGs) Try.underlying34 (zero_i64) rfl rfl rfl) ?_; clear S a; intro a S
    try simp only [Bool.false_eq_true, if_false, hCS q.nm.stamp] at S
    refine st_y S rfl rfl rfl (y_int S rfl rfl rfl) ?_; clear S a; intro a S
    refine st_go [1, 1] S rfl (by kernel_rfl) ?_; clear S a; intro a S
    refine st_if (t := 68) S rfl ?_ ?_
    · clear S; intro h68 S
      refine st_go [0, 0, 0, 0, 0, 1] S rfl (by kernel_rfl) ?_; clear S a; intro a S
      replace S := S.sub [(1, _), (3, _), (4, _), (5, _), (43, _), (44, _), (45, _), (46, _), (7, _), (74, _)] rfl
      refine nxC ?_
      refine st_condT S rfl ?_
      refine nxD ?_
      refine st_go [1] S rfl (by kernel_rfl) ?_; clear S a; intro a S
      refine nxC ?_
      refine wp_ret ?_
      refine then_ret ?_
      refine block_ret ?_
      refine then_ret ?_
      refine then_ret ?_
      refine block_ret ?_
      refine then_ret ?_
      refine end_one S rfl (res_tmp rfl) ?_
      refine ⟨2, rfl, M.below, .inr ⟨rfl, fun h => ?_⟩⟩
      obtain ⟨h1, h2, h3, h4⟩ := h.ops k q hq
      first
        | omega
        | (have hc : cntI ((s.l.take k).map fun o => o.nm.stamp) q.nm.stamp ≠ 0 := by assumption
           obtain ⟨j, p, hj, hp, he⟩ := cnt_ex hc
           exact h3 j p hj hp he)
        | (have hc : q.may s.inc = false := by assumption
           rw [hc] at h4; exact absurd h4 (by decide))
    clear S; intro h68 S
    refine st_y S rfl rfl rfl (y_loadAgg (cs := [_, _, _, _, _, _, _, _, _, _, _, _, _, _, _, _, _, _, _, _, _, _, _, _, _, _, _, _, _, _, _, _, _, _, _, _, _]) S (by kernel_rfl) rfl rfl (M.cellsAt (k := 37) 0 rfl rfl)) ?_; clear S a; intro a S
    refine st_run [3, 4] S M rfl (by kernel_rfl) ?_; clear S a; intro a S
    refine st_call (xs := [(Operand.tmp 69), (Operand.tmp 71)]) S (enters_of Try.func28 (by decide) rfl) rfl rfl rfl (openMay_any q s.inc _ (hsh q hqm)) ?_
    rintro _ w6 ⟨rfl, hK⟩; refine ⟨_, rfl, ?_⟩; clear S a; intro a S; replace M := M.grow hK
    refine st_go [1, 1] S rfl (by kernel_rfl) ?_; clear S a; intro a S
    replace S := S.sub [(1, _), (3, _), (4, _), (5, _), (43, _), (44, _), (45, _), (46, _), (7, _), (74, _)] rfl
    refine nxC ?_
    refine st_if (t := 74) S rfl ?_ ?_
    · clear S; intro h74 S
      refine st_condT S rfl ?_
      refine nxD ?_
      refine st_go [1] S rfl (by kernel_rfl) ?_; clear S a; intro a S
      refine nxC ?_
      refine wp_ret ?_
      refine then_ret ?_
      refine block_ret ?_
      refine then_ret ?_
      refine then_ret ?_
      refine block_ret ?_
      refine then_ret ?_
      refine end_one S rfl (res_tmp rfl) ?_
      refine ⟨2, rfl, M.below, .inr ⟨rfl, fun h => ?_⟩⟩
      obtain ⟨h1, h2, h3, h4⟩ := h.ops k q hq
      first
        | omega
        | (have hc : cntI ((s.l.take k).map fun o => o.nm.stamp) q.nm.stamp ≠ 0 := by assumption
           obtain ⟨j, p, hj, hp, he⟩ := cnt_ex hc
           exact h3 j p hj hp he)
        | (have hc : q.may s.inc = false := by assumption
           rw [hc] at h4; exact absurd h4 (by decide))
    clear S; intro h74 S
    refine st_condF S rfl ?_
    refine wp_skip ?_
    refine nxE ?_
    refine st_run [1, 1, 1] S M rfl (by kernel_rfl) ?_; clear S a; intro a S
    refine nxA ?_
    refine st_run [1, 1, 1] S M rfl (by kernel_rfl) ?_; clear S a; intro a S
    refine st_y S rfl rfl rfl (y_lookupM (pos := 2) S M (keyN) (hGo) Try.underlying34 (zero_i64) rfl rfl rfl) ?_; clear S a; intro a S
    simp only [Bool.false_eq_true, if_false, hCO q.h] at S
    have hbo := cntI_bd ((s.l.take k).map Ope.h) q.h
    rw [List.length_map, List.length_take] at hbo
    (first | refine st_y S rfl rfl rfl (y_addN S rfl rfl (by omega)) ?_ | refine st_y S rfl rfl rfl (y_int S rfl rfl rfl) ?_); clear S a; intro a S
    refine st_updateM (pos := 2) S M (keyN) (hGo) Try.underlying34 rfl rfl rfl rfl rfl ?_; clear M; intro w7 M
    simp only [List.set_cons_zero, List.set_cons_succ] at M
    refine nxB ?_
    refine st_run [1, 3, 1, 1] S M rfl (by kernel_rfl) ?_; clear S a; intro a S
    refine st_y S rfl rfl rfl (y_lookupM (pos := 1) S M (keyN) (hGs) Try.underlying34 (zero_i64) rfl rfl rfl) ?_; clear S a; intro a S
    simp only [Bool.false_eq_true, if_false, hCS q.nm.stamp] at S
    have hbs := cntI_bd ((s.l.take k).map fun o => o.nm.stamp) q.nm.stamp
    rw [List.length_map, List.length_take] at hbs
    (first | refine st_y S rfl rfl rfl (y_addN S rfl rfl (by omega)) ?_ | refine st_y S rfl rfl rfl (y_int S rfl rfl rfl) ?_); clear S a; intro a S
    refine st_updateM (pos := 1) S M (keyN) (hGs) Try.underlying34 rfl rfl rfl rfl rfl ?_; clear M; intro w8 M
    simp only [List.set_cons_zero, List.set_cons_succ] at M
    replace S := S.sub [(1, _), (3, _), (4, _), (43, _), (44, _), (45, _), (46, _), (7, _), (74, _), (5, _)] rfl
    refine wpList_nil ?_
    refine block_normal ?_
    refine nxF ?_
    (first | refine st_y S rfl rfl rfl (y_addN S rfl rfl (by omega)) ?_ | refine st_y S rfl rfl rfl (y_int S rfl rfl rfl) ?_); clear S a; intro a S
    refine st_go [1] S rfl (by kernel_rfl) ?_; clear S a; intro a S
    refine nxC ?_
    skip
    replace M := M.drop 0
    simp only [List.eraseIdx_cons_succ, List.eraseIdx_cons_zero] at M
    have hpv : prevH s.l (k + 1) = q.h := by rw [prevH, hq]
    have hnew : OpOk s k q := by
      refine ⟨by omega, by omega, fun j p hj hp e => ?_, by assumption⟩
      exact cnt_no (f := fun o : Ope => o.nm.stamp) (by assumption) hj hp e
    refine ⟨s.l.length - (k + 1), by omega, k + 1, _, _, _, _, by omega, rfl, hGo.put _ _, hGs.put _ _, ?_, ?_, fun i o hi ho9 => ?_, by rw [hpv]; exact S.sub _ rfl, M⟩
    · rw [take_map_snoc Ope.h hq]; exact hCO.snoc _
    · rw [take_map_snoc (fun o : Ope => o.nm.stamp) hq]; exact hCS.snoc _
    · rcases Nat.lt_or_ge i k with h | h
      · exact hpre i o h ho9
      · obtain rfl : i = k := by omega
        rw [hq] at ho9; obtain rfl := Option.some.inj ho9; exact hnew
  clear S; intro h46 S
  refine st_condF S rfl ?_
  refine wp_exit ?_
  refine then_exit ?_
  refine then_exit ?_
  refine block_hit ?_
  refine then_normal ?_
  refine wp_seq ?_
  refine nxD ?_
  refine st_run [4, 3] S M rfl (by kernel_rfl) ?_; clear S a; intro a S
  refine st_y S rfl rfl rfl (y_lenS (E := 91) S rfl (by kernel_rfl)) ?_; clear S a; intro a S
  refine st_go [1] S rfl (by kernel_rfl) ?_; clear S a; intro a S
  refine nxC ?_
  refine wp_block ?_
  refine wp_loop_g (fun m a w' => ∃ (k2 : Nat), k2 ≤ s.over.length ∧ m = s.over.length - k2 ∧ (∀ (i : Nat) (x : End_), i < k2 → s.over[i]? = some x → EndOk s x) ∧ Sees 129 a [(1, .pointer (some ⟨bB, 0, none⟩)), (3, .map (some bO)), (90, .slice oa s.over.length oc), (91, .int .i64 (s.over.length : Int)), (92, .int .i64 (k2 : Int))] ∧ Mem w w' [mapX bS ms cs, mapX bO mo co, .blk bB #[.slice va s.l.length vc, .int .i64 s.last, .int .i64 s.inc, .slice oa s.over.length oc] 29]) (s.over.length) ?_ ?_
  · skip
    exact ⟨0, Nat.zero_le _, rfl, fun i o h => absurd h (by omega), S.sub _ rfl, M⟩
  clear S M a; intro m a wl
  rintro ⟨k2, hk2, rfl, hpre2, S, M⟩
  refine nxD ?_
  refine st_go [1] S rfl (by kernel_rfl) ?_; clear S a; intro a S
  refine nxC ?_
  refine wp_seq ?_
  refine st_fi (t := 93) S rfl ?_ ?_
  · clear S; intro h93 S
    refine st_condF S rfl ?_
    refine wp_exit ?_
    refine then_exit ?_
    refine then_exit ?_
    refine block_hit ?_
    refine nxE ?_
    refine st_go [1] S rfl (by kernel_rfl) ?_; clear S a; intro a S
    refine nxC ?_
    refine wp_ret ?_
    refine end_one S rfl (res_tmp rfl) ?_
    refine ⟨0, rfl, M.below, .inl ⟨rfl, ⟨by omega, by omega, by omega, fun i o ho9 => ?_, fun x hx => ?_⟩⟩⟩
    · have := (List.getElem?_eq_some_iff.1 ho9).1
      exact hpre i o (by omega) ho9
    · obtain ⟨i, hi⟩ := List.getElem?_of_mem hx
      have := (List.getElem?_eq_some_iff.1 hi).1
      exact hpre2 i x (by omega) hi
  clear S; intro h93 S
  refine st_condT S rfl ?_
  refine wp_skip ?_
  refine then_normal ?_
  refine wp_seq ?_
  refine wp_block ?_
  refine wp_seq ?_
  obtain ⟨x, hx⟩ : ∃ x, s.over[k2]? = some x := ⟨_, List.getElem?_eq_getElem (by omega)⟩
  refine wp_region_lit ?_
  refine st_y S rfl rfl rfl (y_indexR (e := 91) (sz := 5) S (by kernel_rfl) rfl ((M.arg ho)) rfl (by first | omega | (simp; done) | (simp; omega))) ?_; clear S a; intro a S
  try simp only [Int.toNat_natCast, Nat.mul_one, Nat.zero_add] at S
  refine st_y S rfl rfl rfl (y_loadAgg S (by kernel_rfl) rfl rfl ((M.arg ho).at_.row (i := k2) (fm_get len_end hx) rfl)) ?_; clear S a; intro a S
  refine st_alloc S M rfl rfl #[.int .i64 0, .int .i64 0, .int .i64 0, .int .i64 0, .int .i64 0] (by kernel_rfl) ?_; clear S M a; intro a w9 bY S M hB
  refine st_store (sz := 5) (us := [_, _, _, _, _]) S M 0 rfl (by kernel_rfl) rfl rfl rfl rfl rfl rfl (by first | decide | (simp; done) | (simp; omega)) ?_; clear M; intro w10 M
  simp only [putL, List.set_cons_zero, List.set_cons_succ, Nat.reduceAdd] at M
  refine nxC ?_
  refine wp_seq ?_
  refine nxD ?_
  refine st_run [1, 1, 1, 1] S M rfl (by kernel_rfl) ?_; clear S a; intro a S
  refine st_if (t := 99) S rfl ?_ ?_
  · clear S; intro h99 S
    refine st_go [0, 0, 0, 0, 0, 1, 1, 0, 0, 0, 0] S rfl (by kernel_rfl) ?_; clear S a; intro a S
    refine st_no S rfl rfl rfl ?_; clear S a; intro a S
    refine st_go [1, 1, 0, 0, 0, 0, 1] S rfl (by kernel_rfl) ?_; clear S a; intro a S
    replace S := S.sub [(1, _), (3, _), (90, _), (91, _), (92, _), (93, _), (9, _), (118, _)] rfl
    refine nxC ?_
    refine st_condT S rfl ?_
    refine nxD ?_
    refine st_go [1] S rfl (by kernel_rfl) ?_; clear S a; intro a S
    refine nxC ?_
    refine wp_ret ?_
    refine then_ret ?_
    refine block_ret ?_
    refine then_ret ?_
    refine then_ret ?_
    refine block_ret ?_
    refine then_ret ?_
    refine end_one S rfl (res_tmp rfl) ?_
    refine ⟨2, rfl, M.below, .inr ⟨rfl, fun h => ?_⟩⟩
    obtain ⟨h1, h2, h3, h4⟩ := h.ends x (List.mem_of_getElem? hx)
    first
      | omega
      | (have hc : cntI ((s.l.take k).map Ope.h) x.h ≠ 0 := by assumption
         obtain ⟨j, p, hj, hp, he⟩ := cnt_ex hc
         exact h2 p (List.mem_of_getElem? hp) he)
  clear S; intro h99 S
  refine st_run [1, 1, 2, 4, 1, 1, 1] S M rfl (by kernel_rfl) ?_; clear S a; intro a S
  refine st_if (t := 106) S rfl ?_ ?_
  · clear S; intro h106 S
    refine st_go [0, 0, 0, 0] S rfl (by kernel_rfl) ?_; clear S a; intro a S
    refine st_no S rfl rfl rfl ?_; clear S a; intro a S
    refine st_go [1, 1, 0, 0, 0, 0, 1] S rfl (by kernel_rfl) ?_; clear S a; intro a S
    replace S := S.sub [(1, _), (3, _), (90, _), (91, _), (92, _), (93, _), (9, _), (118, _)] rfl
    refine nxC ?_
    refine st_condT S rfl ?_
    refine nxD ?_
    refine st_go [1] S rfl (by kernel_rfl) ?_; clear S a; intro a S
    refine nxC ?_
    refine wp_ret ?_
    refine then_ret ?_
    refine block_ret ?_
    refine then_ret ?_
    refine then_ret ?_
    refine block_ret ?_
    refine then_ret ?_
    refine end_one S rfl (res_tmp rfl) ?_
    refine ⟨2, rfl, M.below, .inr ⟨rfl, fun h => ?_⟩⟩
    obtain ⟨h1, h2, h3, h4⟩ := h.ends x (List.mem_of_getElem? hx)
    first
      | omega
      | (have hc : cntI ((s.l.take k).map Ope.h) x.h ≠ 0 := by assumption
         obtain ⟨j, p, hj, hp, he⟩ := cnt_ex hc
         exact h2 p (List.mem_of_getElem? hp) he)
  clear S; intro h106 S
  refine st_run [1, 1, 1] S M rfl (by kernel_rfl) ?_; clear S a; intro a S
  refine st_y S rfl rfl rfl (y_lookupM (pos := 2) S M (keyN) (hGo) Try.underlying34 (zero_i64) rfl rfl rfl) ?_; clear S a; intro a S
  try simp only [Bool.false_eq_true, if_false, hCO x.h] at S
  refine st_y S rfl rfl rfl (y_int S rfl rfl rfl) ?_; clear S a; intro a S
  refine st_go [1, 1] S rfl (by kernel_rfl) ?_; clear S a; intro a S
  refine st_if (t := 113) S rfl ?_ ?_
  · clear S; intro h113 S
    refine st_go [0, 0, 0, 0, 1] S rfl (by kernel_rfl) ?_; clear S a; intro a S
    replace S := S.sub [(1, _), (3, _), (90, _), (91, _), (92, _), (93, _), (9, _), (118, _)] rfl
    refine nxC ?_
    refine st_condT S rfl ?_
    refine nxD ?_
    refine st_go [1] S rfl (by kernel_rfl) ?_; clear S a; intro a S
    refine nxC ?_
    refine wp_ret ?_
    refine then_ret ?_
    refine block_ret ?_
    refine then_ret ?_
    refine then_ret ?_
    refine block_ret ?_
    refine then_ret ?_
    refine end_one S rfl (res_tmp rfl) ?_
    refine ⟨2, rfl, M.below, .inr ⟨rfl, fun h => ?_⟩⟩
    obtain ⟨h1, h2, h3, h4⟩ := h.ends x (List.mem_of_getElem? hx)
    first
      | omega
      | (have hc : cntI ((s.l.take k).map Ope.h) x.h ≠ 0 := by assumption
         obtain ⟨j, p, hj, hp, he⟩ := cnt_ex hc
         exact h2 p (List.mem_of_getElem? hp) he)
  clear S; intro h113 S
  refine st_run [2, 1] S M rfl (by kernel_rfl) ?_; clear S a; intro a S
  refine st_call (xs := [(Operand.tmp 115)]) S (enters_of Try.func29 (by decide) rfl) rfl rfl rfl (clientIs_any x.c _) ?_
  rintro _ w11 ⟨rfl, hK⟩; refine ⟨_, rfl, ?_⟩; clear S a; intro a S; replace M := M.grow hK
  refine st_go [1, 1] S rfl (by kernel_rfl) ?_; clear S a; intro a S
  replace S := S.sub [(1, _), (3, _), (90, _), (91, _), (92, _), (93, _), (9, _), (118, _)] rfl
  refine nxC ?_
  refine st_if (t := 118) S rfl ?_ ?_
  · clear S; intro h118 S
    refine st_condT S rfl ?_
    refine nxD ?_
    refine st_go [1] S rfl (by kernel_rfl) ?_; clear S a; intro a S
    refine nxC ?_
    refine wp_ret ?_
    refine then_ret ?_
    refine block_ret ?_
    refine then_ret ?_
    refine then_ret ?_
    refine block_ret ?_
    refine then_ret ?_
    refine end_one S rfl (res_tmp rfl) ?_
    refine ⟨2, rfl, M.below, .inr ⟨rfl, fun h => ?_⟩⟩
    obtain ⟨h1, h2, h3, h4⟩ := h.ends x (List.mem_of_getElem? hx)
    first
      | omega
      | (have hc : cntI ((s.l.take k).map Ope.h) x.h ≠ 0 := by assumption
         obtain ⟨j, p, hj, hp, he⟩ := cnt_ex hc
         exact h2 p (List.mem_of_getElem? hp) he)
  clear S; intro h118 S
  refine st_condF S rfl ?_
  refine wp_skip ?_
  refine nxE ?_
  refine st_run [3, 1, 3, 4, 4, 1] S M rfl (by kernel_rfl) ?_; clear S a; intro a S
  refine st_y S rfl rfl rfl (y_build (ps := [(0, (Operand.tmp 120)), (1, (Operand.tmp 122)), (2, (Operand.tmp 124))]) (pl := [(0, 1), (1, 1), (2, 1)]) (z := [.int .i64 0, .int .i64 0, .int .i64 0]) (cs := [_, _, _]) S (by kernel_rfl) rfl (rfl)) ?_; clear S a; intro a S
  refine st_call (xs := [(Operand.tmp 125)]) S (enters_of Try.func30 (by decide) rfl) rfl rfl rfl (named_any ⟨x.stamp, s.inc, x.try_⟩ _) ?_
  rintro _ w12 ⟨rfl, hK⟩; refine ⟨_, rfl, ?_⟩; clear S a; intro a S; replace M := M.grow hK
  refine st_go [1] S rfl (by kernel_rfl) ?_; clear S a; intro a S
  refine nxC ?_
  refine st_if (t := 127) S rfl ?_ ?_
  · clear S; intro h127 S
    refine st_condT S rfl ?_
    refine nxD ?_
    refine st_go [1] S rfl (by kernel_rfl) ?_; clear S a; intro a S
    refine nxC ?_
    refine wp_ret ?_
    refine block_ret ?_
    refine then_ret ?_
    refine then_ret ?_
    refine block_ret ?_
    refine then_ret ?_
    refine end_one S rfl (res_tmp rfl) ?_
    refine ⟨2, rfl, M.below, .inr ⟨rfl, fun h => ?_⟩⟩
    obtain ⟨h1, h2, h3, h4⟩ := h.ends x (List.mem_of_getElem? hx)
    have hc : (⟨x.stamp, s.inc, x.try_⟩ : Nm).named = false := by assumption
    rw [hc] at h4; exact absurd h4 (by decide)
  clear S; intro h127 S
  refine st_condF S rfl ?_
  refine wp_skip ?_
  refine block_normal ?_
  refine nxF ?_
  (first | refine st_y S rfl rfl rfl (y_addN S rfl rfl (by omega)) ?_ | refine st_y S rfl rfl rfl (y_int S rfl rfl rfl) ?_); clear S a; intro a S
  refine st_go [1] S rfl (by kernel_rfl) ?_; clear S a; intro a S
  refine nxC ?_
  skip
  replace M := M.drop 0
  simp only [List.eraseIdx_cons_succ, List.eraseIdx_cons_zero] at M
  have hkl : k = s.l.length := by omega
  have hnew : EndOk s x := by
    refine ⟨by omega, fun o ho9 e => ?_, by omega, by assumption⟩
    obtain ⟨j, hj⟩ := List.getElem?_of_mem ho9
    exact cnt_no (f := Ope.h) (by assumption) (by have := (List.getElem?_eq_some_iff.1 hj).1; omega : j < k) hj e
  refine ⟨s.over.length - (k2 + 1), by omega, k2 + 1, by omega, rfl, fun i o hi ho9 => ?_, S.sub _ rfl, M⟩
  rcases Nat.lt_or_ge i k2 with h | h
  · exact hpre2 i o h ho9
  · obtain rfl : i = k2 := by omega
    rw [hx] at ho9; obtain rfl := Option.some.inj ho9; exact hnew
end Go.Proofs.Ytniijiipkfhjgaa

namespace Go.Proofs.Ytniijiipkfhjgaa
open Go.RowKit Go.Sort
theorem one_end (o : End_) : allOne o.cellsL = true := rfl
theorem ope_nil (o : Ope) : putL o.cellsL 36 [.slice none 0 0] = o.cellsL := by kernel_rfl
/-- a session's rows read -/
def RdS (wo : World) (A : List Ent) (s : Ses) (va : Option Addr) (vc : Nat) (oa : Option Addr) (oc : Nat) : Prop :=
  ∀ w, Mem wo w A → Rd 0 w.heap.size w 37 (.slice va s.l.length vc) s.l.length (fm Ope.cellsL s.l) ∧ Rd 0 w.heap.size w 5 (.slice oa s.over.length oc) s.over.length (fm End_.cellsL s.over)
set_option maxHeartbeats 2000000 in
theorem copied_any {wo w : World} {A : List Ent} (s : Ses) (va oa : Option Addr) (vc oc : Nat) (hR : RdS wo A s va vc oa oc) (M : Mem wo w A) (hl : s.l.length ≤ 500) (hov : s.over.length ≤ 500) :
    Calls Try.prog 18 #[.agg #[.slice va s.l.length vc, .int .i64 s.last, .int .i64 s.inc, .slice oa s.over.length oc]] w fun e w' => ∃ rl ro : Rw, e = .returned (.agg (sesL s rl ro).toArray) ∧ Mem wo w' (sesE s rl ro ++ A) := by
  refine calls_enter Try.func18 rfl 26 rfl rfl ?_; intro a S
  refine nxD ?_
  refine st_box S M rfl rfl rfl #[_, _, _, _] rfl ?_; clear S M a; intro a w1 bB S M hB
  refine st_alloc S M rfl rfl #[.slice none 0 0, .int .i64 0, .int .i64 0, .slice none 0 0] (by kernel_rfl) ?_; clear S M a; intro a w2 bR S M hB
  refine nxC ?_
  refine wp_seq ?_
  replace M := (M.rowNil 65 37).rowNil 91 5
  refine wp_region_lit ?_
  refine st_run [1, 4] S M rfl (by kernel_rfl) ?_; clear S a; intro a S
  refine st_append (e := 65) (sz := 37) (by_ := 256) (zc := [.int .i64 0, .int .i64 0, .int .i64 0, .int .i64 0, .int .i64 0, .int .i8 0, .int .i64 0, .int .i64 0, .int .i64 0, .int .i64 0, .int .i64 0, .int .i64 0, .int .i64 0, .int .i8 0, .int .i64 0, .int .i64 0, .int .i64 0, .int .i64 0, .int .i64 0, .int .i64 0, .int .i64 0, .int .i64 0, .int .i8 0, .int .i64 0, .int .u8 0, .int .u8 0, .int .u8 0, .int .u8 0, .int .u8 0, .int .u8 0, .int .u8 0, .int .u8 0, .int .i64 0, .bool false, .int .i64 0, .int .i64 0, .slice none 0 0]) S M 1 rfl rfl (by kernel_rfl) rfl (by decide) rfl rfl rfl ((hR _ (M.sub (.cons _ (.cons _ (.cons _ (.cons _ (List.Sublist.refl _))))))).1) (fm_one one_ope _) (by omega) (by unfold maxLen; omega) ?_; clear S M a; intro a w3 vA loA hiA S M
  simp only [List.nil_append, Nat.zero_add] at M S
  obtain ⟨la, lc, rfl, -, -⟩ := (M.readAll 0 rfl (by unfold maxLen; omega)).form
  refine st_y S rfl rfl rfl (y_fieldAddr (k := 0) S (by kernel_rfl) rfl) ?_; clear S a; intro a S
  refine st_store (sz := 1) (us := [_]) S M 3 rfl (by kernel_rfl) rfl rfl rfl rfl rfl rfl (by first | decide | (simp; done) | (simp; omega)) ?_; clear M; intro w4 M
  simp only [putL, List.set_cons_zero, List.set_cons_succ, Nat.reduceAdd] at M
  refine nxA ?_
  refine st_run [4, 4] S M rfl (by kernel_rfl) ?_; clear S a; intro a S
  refine st_append (e := 91) (sz := 5) (by_ := 40) (zc := [.int .i64 0, .int .i64 0, .int .i64 0, .int .i64 0, .int .i64 0]) S M 1 rfl rfl (by kernel_rfl) rfl (by decide) rfl rfl rfl ((hR _ (M.sub (.cons _ (.cons _ (.cons _ (.cons _ (List.Sublist.refl _))))))).2) (fm_one one_end _) (by omega) (by unfold maxLen; omega) ?_; clear S M a; intro a w5 vA loA hiA S M
  simp only [List.nil_append, Nat.zero_add] at M S
  obtain ⟨oa2, oc2, rfl, -, -⟩ := (M.readAll 0 rfl (by unfold maxLen; omega)).form
  refine st_y S rfl rfl rfl (y_fieldAddr (k := 3) S (by kernel_rfl) rfl) ?_; clear S a; intro a S
  refine st_store (sz := 1) (us := [_]) S M 3 rfl (by kernel_rfl) rfl rfl rfl rfl rfl rfl (by first | decide | (simp; done) | (simp; omega)) ?_; clear M; intro w6 M
  simp only [putL, List.set_cons_zero, List.set_cons_succ, Nat.reduceAdd] at M
  refine nxC ?_
  refine wp_seq ?_
  refine nxD ?_
  refine st_run [1, 4] S M rfl (by kernel_rfl) ?_; clear S a; intro a S
  refine st_y S rfl rfl rfl (y_lenS (E := 65) S rfl (by kernel_rfl)) ?_; clear S a; intro a S
  refine st_go [1] S rfl (by kernel_rfl) ?_; clear S a; intro a S
  refine nxC ?_
  refine wp_block ?_
  refine wp_loop_g (fun m a w' => ∃ (k lo1 hi1 lo2 hi2 : Nat), k ≤ s.l.length ∧ m = s.l.length - k ∧ Sees 26 a [(1, .pointer (some ⟨bB, 0, none⟩)), (2, .pointer (some ⟨bR, 0, none⟩)), (14, .int .i64 (s.l.length : Int)), (15, .int .i64 (k : Int))] ∧ Mem wo w' (rowE lo1 hi1 65 37 (.slice la s.l.length lc) s.l.length (fm Ope.cellsL s.l) :: rowE lo2 hi2 91 5 (.slice oa2 s.over.length oc2) s.over.length (fm End_.cellsL s.over) :: .blk bR #[.slice none 0 0, .int .i64 0, .int .i64 0, .slice none 0 0] 29 :: .blk bB #[.slice la s.l.length lc, .int .i64 s.last, .int .i64 s.inc, .slice oa2 s.over.length oc2] 29 :: A)) (s.l.length) ?_ ?_
  · skip
    exact ⟨0, _, _, _, _, Nat.zero_le _, rfl, S.sub _ rfl, M.front 1 rfl⟩
  clear S M a; intro m a wl
  rintro ⟨k, lo1, hi1, lo2, hi2, hk, rfl, S, M⟩
  refine nxD ?_
  refine st_go [1] S rfl (by kernel_rfl) ?_; clear S a; intro a S
  refine nxC ?_
  refine wp_seq ?_
  refine st_fi (t := 16) S rfl ?_ ?_
  · clear S; intro h16 S
    refine st_condF S rfl ?_
    refine wp_exit ?_
    refine then_exit ?_
    refine then_exit ?_
    refine block_hit ?_
    refine nxE ?_
    refine st_y S rfl rfl rfl (y_loadAgg (cs := [_, _, _, _]) S (by kernel_rfl) rfl rfl (M.cellsAt (k := 4) 3 rfl rfl)) ?_; clear S a; intro a S
    refine st_store (sz := 4) (us := [_, _, _, _]) S M 2 rfl (by kernel_rfl) rfl rfl rfl rfl rfl rfl (by first | decide | (simp; done) | (simp; omega)) ?_; clear M; intro w7 M
    simp only [putL, List.set_cons_zero, List.set_cons_succ, Nat.reduceAdd] at M
    refine nxC ?_
    refine wp_ret ?_
    refine end_one S rfl (res_agg (cs := [_, _, _, _]) (by kernel_rfl) rfl rfl (M.cellsAt (k := 4) 2 rfl rfl)) ?_
    exact ⟨⟨la, lc, lo1, hi1⟩, ⟨oa2, oc2, lo2, hi2⟩, rfl, (M.drop 2).drop 2⟩
  clear S; intro h16 S
  refine st_condT S rfl ?_
  refine wp_skip ?_
  refine then_normal ?_
  refine wp_seq ?_
  refine wp_block ?_
  refine nxD ?_
  refine st_go [1, 1] S rfl (by kernel_rfl) ?_; clear S a; intro a S
  refine nxC ?_
  obtain ⟨q, hq⟩ : ∃ q, s.l[k]? = some q := ⟨_, List.getElem?_eq_getElem (by omega)⟩
  have hkl : k < s.l.length := by omega
  refine wp_region_lit ?_
  refine st_run [1, 4, 1] S M rfl (by kernel_rfl) ?_; clear S a; intro a S
  refine st_y S rfl rfl rfl (y_indexR (e := 65) (sz := 37) S (by kernel_rfl) rfl (M.readAll 0 rfl (by unfold maxLen; omega)) rfl (by first | omega | (simp; done) | (simp; omega))) ?_; clear S a; intro a S
  try simp only [Int.toNat_natCast, Nat.mul_one, Nat.zero_add] at S
  refine st_go [14, 24] S rfl (by kernel_rfl) ?_; clear S a; intro a S
  refine st_storeRow (v := .slice la s.l.length lc) (sz := 37) (m := s.l.length) (j := k * 37 + 36) (us := [.slice none 0 0]) S M 0 rfl (by kernel_rfl) rfl rfl (by first | rfl | omega | (simp only [Int.toNat_natCast]; omega)) rfl rfl rfl rfl rfl (by omega) (fm_len len_ope _) (by rw [fm_len len_ope]; show k * 37 + 36 + 1 ≤ _; omega) ?_; clear M; intro wz lo9 hi9 M
  simp only [List.eraseIdx_cons_succ, List.eraseIdx_cons_zero] at M
  have he : putL (fm Ope.cellsL s.l) (k * 37 + 36) [.slice none 0 0] = fm Ope.cellsL s.l := by
    have := fm_put (x := q) (x' := q) len_ope hkl (by show 36 + 1 ≤ 37; omega) (ope_nil q)
    rw [set_self hq] at this; exact this
  rw [he] at M
  refine wpList_nil ?_
  refine block_normal ?_
  refine nxF ?_
  (first | refine st_y S rfl rfl rfl (y_addN S rfl rfl (by omega)) ?_ | refine st_y S rfl rfl rfl (y_int S rfl rfl rfl) ?_); clear S a; intro a S
  refine st_go [1] S rfl (by kernel_rfl) ?_; clear S a; intro a S
  refine nxC ?_
  exact ⟨s.l.length - (k + 1), by omega, k + 1, _, _, _, _, by omega, rfl, S.sub _ rfl, M⟩
theorem new_any (inc : Int) (w : World) : Calls Try.prog 7 #[.int .i64 inc] w fun e w' => ∃ (last : Int) (k : Int) (er : Int), e = .returned (.tuple #[.agg #[.slice none 0 0, .int .i64 last, .int .i64 k, .slice none 0 0], .int .i64 er]) ∧ Below w.heap.size w w' ∧ (1 ≤ inc ∧ inc ≤ 1048576 → last = 0 ∧ k = inc ∧ er = 0) := by
  have M := Mem.start w
  refine calls_enter Try.func7 rfl 13 rfl rfl ?_; intro a S
  refine nxD ?_
  refine st_alloc S M rfl rfl #[.slice none 0 0, .int .i64 0, .int .i64 0, .slice none 0 0] (by kernel_rfl) ?_; clear S M a; intro a w1 b1 S M hB
  refine st_go [1] S rfl (by kernel_rfl) ?_; clear S a; intro a S
  refine nxC ?_
  refine wp_seq ?_
  refine nxD ?_
  refine st_go [1, 1, 1] S rfl (by kernel_rfl) ?_; clear S a; intro a S
  refine st_if (t := 6) S rfl ?_ ?_
  · clear S; intro h6 S
    refine st_go [0, 0, 1] S rfl (by kernel_rfl) ?_; clear S a; intro a S
    refine nxC ?_
    refine st_condT S rfl ?_
    refine nxD ?_
    refine st_y S rfl rfl rfl (y_build (ps := []) (pl := [(0, 1), (1, 1), (2, 1), (3, 1)]) (z := [.slice none 0 0, .int .i64 0, .int .i64 0, .slice none 0 0]) (cs := [_, _, _, _]) S (by kernel_rfl) rfl (rfl)) ?_; clear S a; intro a S
    refine st_store (sz := 4) (us := [_, _, _, _]) S M 0 rfl (by kernel_rfl) rfl rfl rfl rfl rfl rfl (by first | decide | (simp; done) | (simp; omega)) ?_; clear M; intro w2 M
    simp only [putL, List.set_cons_zero, List.set_cons_succ, Nat.reduceAdd] at M
    refine st_go [1] S rfl (by kernel_rfl) ?_; clear S a; intro a S
    refine nxC ?_
    refine wp_ret ?_
    refine then_ret ?_
    refine end_two S rfl (res_agg (cs := [_, _, _, _]) (by kernel_rfl) rfl rfl (M.cellsAt (k := 4) 0 rfl rfl)) (res_tmp rfl) ?_
    exact ⟨_, _, _, rfl, M.below, fun h => by first | (exfalso; omega) | exact ⟨rfl, rfl, rfl⟩⟩
  clear S; intro h6 S
  refine st_go [1, 1, 1] S rfl (by kernel_rfl) ?_; clear S a; intro a S
  refine nxC ?_
  refine st_if (t := 9) S rfl ?_ ?_
  · clear S; intro h9 S
    refine st_condT S rfl ?_
    refine nxD ?_
    refine st_y S rfl rfl rfl (y_build (ps := []) (pl := [(0, 1), (1, 1), (2, 1), (3, 1)]) (z := [.slice none 0 0, .int .i64 0, .int .i64 0, .slice none 0 0]) (cs := [_, _, _, _]) S (by kernel_rfl) rfl (rfl)) ?_; clear S a; intro a S
    refine st_store (sz := 4) (us := [_, _, _, _]) S M 0 rfl (by kernel_rfl) rfl rfl rfl rfl rfl rfl (by first | decide | (simp; done) | (simp; omega)) ?_; clear M; intro w3 M
    simp only [putL, List.set_cons_zero, List.set_cons_succ, Nat.reduceAdd] at M
    refine st_go [1] S rfl (by kernel_rfl) ?_; clear S a; intro a S
    refine nxC ?_
    refine wp_ret ?_
    refine then_ret ?_
    refine end_two S rfl (res_agg (cs := [_, _, _, _]) (by kernel_rfl) rfl rfl (M.cellsAt (k := 4) 0 rfl rfl)) (res_tmp rfl) ?_
    exact ⟨_, _, _, rfl, M.below, fun h => by first | (exfalso; omega) | exact ⟨rfl, rfl, rfl⟩⟩
  clear S; intro h9 S
  refine st_condF S rfl ?_
  refine wp_skip ?_
  refine nxE ?_
  refine st_go [1] S rfl (by kernel_rfl) ?_; clear S a; intro a S
  refine st_y S rfl rfl rfl (y_build (ps := [(2, (Operand.tmp 11))]) (pl := [(0, 1), (1, 1), (2, 1), (3, 1)]) (z := [.slice none 0 0, .int .i64 0, .int .i64 0, .slice none 0 0]) (cs := [_, _, _, _]) S (by kernel_rfl) rfl (rfl)) ?_; clear S a; intro a S
  refine st_store (sz := 4) (us := [_, _, _, _]) S M 0 rfl (by kernel_rfl) rfl rfl rfl rfl rfl rfl (by first | decide | (simp; done) | (simp; omega)) ?_; clear M; intro w4 M
  simp only [putL, List.set_cons_zero, List.set_cons_succ, Nat.reduceAdd] at M
  refine st_go [1] S rfl (by kernel_rfl) ?_; clear S a; intro a S
  refine nxC ?_
  refine wp_ret ?_
  refine end_two S rfl (res_agg (cs := [_, _, _, _]) (by kernel_rfl) rfl rfl (M.cellsAt (k := 4) 0 rfl rfl)) (res_tmp rfl) ?_
  exact ⟨_, _, _, rfl, M.below, fun h => by first | (exfalso; omega) | exact ⟨rfl, rfl, rfl⟩⟩
end Go.Proofs.Ytniijiipkfhjgaa

namespace Go.Proofs.Ytniijiipkfhjgaa
open Go.RowKit Go.Sort
theorem nOk_bd {sh : Int} {k : Nat} {n : Int} (h : nOk sh k n = true) : 0 ≤ n ∧ n ≤ 1048576 := by
  unfold nOk at h
  split at h <;> (simp only [decide_eq_true_eq] at h; omega)
theorem touched_bd {o : Ope} (h : o.touchedMay = true) (k : Nat) : 0 ≤ o.nAt k ∧ o.nAt k ≤ 1048576 := by
  unfold Ope.touchedMay at h
  simp only [Bool.and_eq_true] at h
  obtain ⟨-, ⟨⟨⟨a0, a1⟩, a2⟩, a3⟩, a4⟩ := h
  unfold Ope.nAt
  split
  · exact nOk_bd a0
  · exact nOk_bd a1
  · exact nOk_bd a2
  · exact nOk_bd a3
  · exact nOk_bd a4
theorem may_touched {o : Ope} {inc : Int} (h : o.may inc = true) : o.touchedMay = true := by
  unfold Ope.may at h
  split at h
  · rename_i h1
    simp only [Bool.and_eq_true] at h1
    exact h1.2
  · cases h
theorem Ses.May.bd {s : Ses} (h : s.May) : ∀ o ∈ s.l, ∀ k, 0 ≤ o.nAt k ∧ o.nAt k ≤ 1048576 := fun o ho k => by
  obtain ⟨i, hi⟩ := List.getElem?_of_mem ho
  exact touched_bd (may_touched (h.ops i o hi).2.2.2) k
theorem Ses.May.tries {s : Ses} (h : s.May) : ∀ x ∈ s.over, 0 ≤ x.try_ ∧ x.try_ ≤ 1048576 := fun x hx => by
  have h4 := (h.ends x hx).2.2.2
  simp only [Nm.named, withinB, Bool.and_eq_true, decide_eq_true_eq] at h4
  omega
/-- what comes of a call -/
def Dsk.DoesR (D : Dsk) (c : Cal) (bs : List UInt8) (st : Int) (D' : Dsk) : Prop := c.kind = 0 ∧ D' = D.begin c st ∨ c.kind ≠ 0 ∧ D.HandledR c bs D'
def doesF (c : Cal) : Nat := if c.kind = 0 then 19 else 20
theorem does_enters (c : Cal) : Enters Try.prog (doesF c) := by
  unfold doesF
  split
  · exact enters_of Try.func19 (by decide) rfl
  · exact enters_of Try.func20 (by decide) rfl
theorem does_any {wo w : World} {A E : List Ent} {b : Nat} {D : Dsk} (c : Cal) (da : Option Addr) (dc : Nat) (bs : List UInt8) (st : Int) (hE : DeskE b D E) (M : Mem wo w (A ++ E)) (hs : D.tiny) (hm : D.s.May) (hsh : ∀ o ∈ D.s.l, ShOk o.sh) (hv : RdH wo A (.slice da bs.length dc) bs) :
    Calls Try.prog (doesF c) #[.pointer (some ⟨b, 0, none⟩), .agg (c.cellsL (.slice da bs.length dc)).toArray, .int .i64 st] w fun e w' => e = .returned (.tuple #[]) ∧ ∃ D' E', D.DoesR c bs st D' ∧ DeskE b D' E' ∧ Mem wo w' (A ++ E') := by
  have hla := hm.last
  by_cases hk : c.kind = 0
  · unfold doesF; rw [if_pos hk]
    refine Calls.mono (begin_any c da bs.length dc st hE M hs hm.tries (by omega)) fun e w' h => ?_
    obtain ⟨h1, E', h2, h3⟩ := h
    exact ⟨h1, _, E', .inl ⟨hk, rfl⟩, h2, h3⟩
  · unfold doesF; rw [if_neg hk]
    refine Calls.mono (handled_any c da dc bs st hE M hs hm.bd hsh hv) fun e w' h => ?_
    obtain ⟨h1, D', E', h2, h3, h4⟩ := h
    exact ⟨h1, D', E', .inr ⟨hk, h2⟩, h3, h4⟩
end Go.Proofs.Ytniijiipkfhjgaa

namespace Go.Proofs.Ytniijiipkfhjgaa
open Go.RowKit Go.Sort
/-- what a step of a session gives back -/
def StepP (wo : World) (A : List Ent) (e : Ending) (w' : World) (R : Ses → Tol → Prop) : Prop :=
  ∃ (s' : Ses) (t' : Tol) (er : Int) (rl ro rm ra rs rc re : Rw), e = .returned (.tuple #[.agg (sesL s' rl ro).toArray, .agg (tolL t' rm ra rs rc re).toArray, .int .i64 er]) ∧ Mem wo w' (sesE s' rl ro ++ (tolE t' rm ra rs rc re ++ A)) ∧ (er = 0 → R s' t')
/-- as StepP; where it is refused, N holds -/
def StepN (wo : World) (A : List Ent) (e : Ending) (w' : World) (N : Prop) (R : Ses → Tol → Prop) : Prop :=
  ∃ (s' : Ses) (t' : Tol) (er : Int) (rl ro rm ra rs rc re : Rw), e = .returned (.tuple #[.agg (sesL s' rl ro).toArray, .agg (tolL t' rm ra rs rc re).toArray, .int .i64 er]) ∧ Mem wo w' (sesE s' rl ro ++ (tolE t' rm ra rs rc re ++ A)) ∧ (er = 0 → R s' t') ∧ (er ≠ 0 → N)
theorem StepN.step {wo w' : World} {A : List Ent} {e : Ending} {N : Prop} {R : Ses → Tol → Prop} : StepN wo A e w' N R → StepP wo A e w' R :=
  fun ⟨s, t, er, rl, ro, rm, ra, rs, rc, re, h1, h2, h3, _⟩ => ⟨s, t, er, rl, ro, rm, ra, rs, rc, re, h1, h2, h3⟩
def Ses.none : Ses := ⟨[], 0, 0, []⟩
theorem nilSes {wo w : World} {A : List Ent} (M : Mem wo w A) : ∃ lo hi : Nat, Mem wo w (sesE Ses.none ⟨none, 0, lo, hi⟩ ⟨none, 0, lo, hi⟩ ++ (tolE Tol.none ⟨none, 0, lo, hi⟩ ⟨none, 0, lo, hi⟩ ⟨none, 0, lo, hi⟩ ⟨none, 0, lo, hi⟩ ⟨none, 0, lo, hi⟩ ++ A)) :=
  ⟨w.heap.size, w.heap.size, ((((((M.rowNil 40 3).rowNil 40 3).rowNil 71 14).rowNil 69 13).rowNil 45 24).rowNil 91 5).rowNil 65 37⟩
theorem nilTol {wo w : World} {A : List Ent} (M : Mem wo w A) : ∃ lo hi : Nat, Mem wo w (tolE Tol.none ⟨none, 0, lo, hi⟩ ⟨none, 0, lo, hi⟩ ⟨none, 0, lo, hi⟩ ⟨none, 0, lo, hi⟩ ⟨none, 0, lo, hi⟩ ++ A) :=
  ⟨w.heap.size, w.heap.size, ((((M.rowNil 40 3).rowNil 40 3).rowNil 71 14).rowNil 69 13).rowNil 45 24⟩
theorem does_cell (c : Cal) (v : Value) (h : 0 ≤ c.kind ∧ c.kind ≤ 4) : #[Value.func (.func 19) #[v] #[], .func (.func 20) #[v] #[], .func (.func 20) #[v] #[], .func (.func 20) #[v] #[], .func (.func 20) #[v] #[]][c.kind.toNat]? = some (.func (.func (doesF c)) #[v] #[]) := by
  unfold doesF
  have : c.kind = 0 ∨ c.kind = 1 ∨ c.kind = 2 ∨ c.kind = 3 ∨ c.kind = 4 := by omega
  rcases this with h | h | h | h | h <;> rw [h] <;> rfl
set_option maxHeartbeats 4000000 in
theorem call_any {wo w : World} {A : List Ent} (s : Ses) (va oa : Option Addr) (vc oc : Nat) (c : Cal) (da : Option Addr) (dc : Nat) (bs : List UInt8) (of : Of8) (st : Int) (hR : RdS wo A s va vc oa oc) (M : Mem wo w A) (hov : s.over.length ≤ 500) (hsh : ∀ o ∈ s.l, ShOk o.sh) (hv : RdH wo A (.slice da bs.length dc) bs) :
    Calls Try.prog 9 #[.agg #[.slice va s.l.length vc, .int .i64 s.last, .int .i64 s.inc, .slice oa s.over.length oc], .agg (c.cellsL (.slice da bs.length dc)).toArray, .agg of.cellsL.toArray, .int .i64 st] w fun e w' => StepN wo A e w' (¬ (s.May ∧ (0 ≤ c.kind ∧ c.kind ≤ 4) ∧ (0 ≤ st ∧ st ≤ 1048576))) fun s' t' => s.May ∧ (0 ≤ c.kind ∧ c.kind ≤ 4) ∧ (0 ≤ st ∧ st ≤ 1048576) ∧ ∃ D', Dsk.DoesR ⟨s, Tol.none, of⟩ c bs st D' ∧ s' = D'.s ∧ t' = D'.t := by
  refine calls_enter Try.func9 rfl 67 rfl rfl ?_; intro a S
  refine nxD ?_
  refine st_box S M rfl rfl rfl #[_, _, _, _] rfl ?_; clear S M a; intro a w1 bS0 S M hB
  refine st_box S M rfl rfl rfl #[_, _, _, _, _, _] rfl ?_; clear S M a; intro a w2 bC0 S M hB
  refine st_box S M rfl rfl rfl #[_, _, _, _, _, _, _, _] rfl ?_; clear S M a; intro a w3 bF0 S M hB
  refine st_alloc S M rfl rfl #[.slice none 0 0, .int .i64 0, .int .i64 0, .slice none 0 0] (by kernel_rfl) ?_; clear S M a; intro a w4 bR0 S M hB
  refine st_alloc S M rfl rfl #[.slice none 0 0, .slice none 0 0, .slice none 0 0, .slice none 0 0, .slice none 0 0] (by kernel_rfl) ?_; clear S M a; intro a w5 bT0 S M hB
  refine st_go [1] S rfl (by kernel_rfl) ?_; clear S a; intro a S
  refine nxC ?_
  refine wp_seq ?_
  refine nxD ?_
  refine st_y S rfl rfl rfl (y_loadAgg (cs := [_, _, _, _]) S (by kernel_rfl) rfl rfl (M.cellsAt (k := 4) 4 rfl rfl)) ?_; clear S a; intro a S
  refine st_call (xs := [(Operand.tmp 13)]) S (enters_of Try.func16 (by decide) rfl) rfl rfl rfl (check_any s va oa vc oc _ (hR _ (M.sub (.cons _ (.cons _ (.cons _ (.cons _ (.cons _ (List.Sublist.refl _)))))))).1 (hR _ (M.sub (.cons _ (.cons _ (.cons _ (.cons _ (.cons _ (List.Sublist.refl _)))))))).2 hsh) ?_
  rintro _ w6 ⟨r, rfl, hK, hr⟩; refine ⟨_, rfl, ?_⟩; clear S a; intro a S; replace M := M.grow hK
  refine st_go [1, 1] S rfl (by kernel_rfl) ?_; clear S a; intro a S
  refine st_if (t := 16) S rfl ?_ ?_
  · clear S; intro h16 S
    refine st_go [0, 0, 0, 1, 1, 0, 0, 0, 1, 1, 0, 0, 1, 1, 0, 0, 1] S rfl (by kernel_rfl) ?_; clear S a; intro a S
    replace S := S.sub [(0, _), (1, _), (2, _), (3, _), (4, _), (5, _), (6, _), (8, _), (9, _), (10, _), (33, _)] rfl
    refine nxC ?_
    refine st_condT S rfl ?_
    refine nxD ?_
    refine st_y S rfl rfl rfl (y_build (ps := []) (pl := [(0, 1), (1, 1), (2, 1), (3, 1)]) (z := [.slice none 0 0, .int .i64 0, .int .i64 0, .slice none 0 0]) (cs := [_, _, _, _]) S (by kernel_rfl) rfl (rfl)) ?_; clear S a; intro a S
    refine st_y S rfl rfl rfl (y_build (ps := []) (pl := [(0, 1), (1, 1), (2, 1), (3, 1), (4, 1)]) (z := [.slice none 0 0, .slice none 0 0, .slice none 0 0, .slice none 0 0, .slice none 0 0]) (cs := [_, _, _, _, _]) S (by kernel_rfl) rfl (rfl)) ?_; clear S a; intro a S
    refine st_store (sz := 4) (us := [_, _, _, _]) S M 1 rfl (by kernel_rfl) rfl rfl rfl rfl rfl rfl (by first | decide | (simp; done) | (simp; omega)) ?_; clear M; intro w7 M
    simp only [putL, List.set_cons_zero, List.set_cons_succ, Nat.reduceAdd] at M
    refine st_store (sz := 5) (us := [_, _, _, _, _]) S M 0 rfl (by kernel_rfl) rfl rfl rfl rfl rfl rfl (by first | decide | (simp; done) | (simp; omega)) ?_; clear M; intro w8 M
    simp only [putL, List.set_cons_zero, List.set_cons_succ, Nat.reduceAdd] at M
    refine st_go [1] S rfl (by kernel_rfl) ?_; clear S a; intro a S
    refine nxC ?_
    refine wp_ret ?_
    refine then_ret ?_
    refine end_three S rfl (res_agg (cs := [_, _, _, _]) (by kernel_rfl) rfl rfl (M.cellsAt (k := 4) 1 rfl rfl)) (res_agg (cs := [_, _, _, _, _]) (by kernel_rfl) rfl rfl (M.cellsAt (k := 5) 0 rfl rfl)) (res_tmp rfl) ?_
    obtain ⟨lo, hi, M2⟩ := nilSes (M.drop 0 |>.drop 0 |>.drop 0 |>.drop 0 |>.drop 0)
    have hNo : ¬ (s.May ∧ (0 ≤ c.kind ∧ c.kind ≤ 4) ∧ (0 ≤ st ∧ st ≤ 1048576)) := by
      rintro ⟨h5, h6, h7⟩
      rcases hr with ⟨h1, h2⟩ | ⟨h1, h2⟩
      · omega
      · exact h2 h5
    exact ⟨Ses.none, Tol.none, 2, _, _, _, _, _, _, _, rfl, M2, fun h => absurd h (by decide), fun _ => hNo⟩
  clear S; intro h16 S
  refine st_run [1, 4, 1, 1, 1] S M rfl (by kernel_rfl) ?_; clear S a; intro a S
  refine st_if (t := 21) S rfl ?_ ?_
  · clear S; intro h21 S
    refine st_go [0, 0, 0, 1, 1, 0, 0, 1, 1, 0, 0, 1] S rfl (by kernel_rfl) ?_; clear S a; intro a S
    replace S := S.sub [(0, _), (1, _), (2, _), (3, _), (4, _), (5, _), (6, _), (8, _), (9, _), (10, _), (33, _)] rfl
    refine nxC ?_
    refine st_condT S rfl ?_
    refine nxD ?_
    refine st_y S rfl rfl rfl (y_build (ps := []) (pl := [(0, 1), (1, 1), (2, 1), (3, 1)]) (z := [.slice none 0 0, .int .i64 0, .int .i64 0, .slice none 0 0]) (cs := [_, _, _, _]) S (by kernel_rfl) rfl (rfl)) ?_; clear S a; intro a S
    refine st_y S rfl rfl rfl (y_build (ps := []) (pl := [(0, 1), (1, 1), (2, 1), (3, 1), (4, 1)]) (z := [.slice none 0 0, .slice none 0 0, .slice none 0 0, .slice none 0 0, .slice none 0 0]) (cs := [_, _, _, _, _]) S (by kernel_rfl) rfl (rfl)) ?_; clear S a; intro a S
    refine st_store (sz := 4) (us := [_, _, _, _]) S M 1 rfl (by kernel_rfl) rfl rfl rfl rfl rfl rfl (by first | decide | (simp; done) | (simp; omega)) ?_; clear M; intro w9 M
    simp only [putL, List.set_cons_zero, List.set_cons_succ, Nat.reduceAdd] at M
    refine st_store (sz := 5) (us := [_, _, _, _, _]) S M 0 rfl (by kernel_rfl) rfl rfl rfl rfl rfl rfl (by first | decide | (simp; done) | (simp; omega)) ?_; clear M; intro w10 M
    simp only [putL, List.set_cons_zero, List.set_cons_succ, Nat.reduceAdd] at M
    refine st_go [1] S rfl (by kernel_rfl) ?_; clear S a; intro a S
    refine nxC ?_
    refine wp_ret ?_
    refine then_ret ?_
    refine end_three S rfl (res_agg (cs := [_, _, _, _]) (by kernel_rfl) rfl rfl (M.cellsAt (k := 4) 1 rfl rfl)) (res_agg (cs := [_, _, _, _, _]) (by kernel_rfl) rfl rfl (M.cellsAt (k := 5) 0 rfl rfl)) (res_tmp rfl) ?_
    obtain ⟨lo, hi, M2⟩ := nilSes (M.drop 0 |>.drop 0 |>.drop 0 |>.drop 0 |>.drop 0)
    have hNo : ¬ (s.May ∧ (0 ≤ c.kind ∧ c.kind ≤ 4) ∧ (0 ≤ st ∧ st ≤ 1048576)) := by
      rintro ⟨h5, h6, h7⟩
      rcases hr with ⟨h1, h2⟩ | ⟨h1, h2⟩
      · omega
      · exact h2 h5
    exact ⟨Ses.none, Tol.none, 2, _, _, _, _, _, _, _, rfl, M2, fun h => absurd h (by decide), fun _ => hNo⟩
  clear S; intro h21 S
  refine st_run [1, 4, 1, 1, 1] S M rfl (by kernel_rfl) ?_; clear S a; intro a S
  refine st_if (t := 26) S rfl ?_ ?_
  · clear S; intro h26 S
    refine st_go [0, 0, 1, 1, 0, 0, 1] S rfl (by kernel_rfl) ?_; clear S a; intro a S
    replace S := S.sub [(0, _), (1, _), (2, _), (3, _), (4, _), (5, _), (6, _), (8, _), (9, _), (10, _), (33, _)] rfl
    refine nxC ?_
    refine st_condT S rfl ?_
    refine nxD ?_
    refine st_y S rfl rfl rfl (y_build (ps := []) (pl := [(0, 1), (1, 1), (2, 1), (3, 1)]) (z := [.slice none 0 0, .int .i64 0, .int .i64 0, .slice none 0 0]) (cs := [_, _, _, _]) S (by kernel_rfl) rfl (rfl)) ?_; clear S a; intro a S
    refine st_y S rfl rfl rfl (y_build (ps := []) (pl := [(0, 1), (1, 1), (2, 1), (3, 1), (4, 1)]) (z := [.slice none 0 0, .slice none 0 0, .slice none 0 0, .slice none 0 0, .slice none 0 0]) (cs := [_, _, _, _, _]) S (by kernel_rfl) rfl (rfl)) ?_; clear S a; intro a S
    refine st_store (sz := 4) (us := [_, _, _, _]) S M 1 rfl (by kernel_rfl) rfl rfl rfl rfl rfl rfl (by first | decide | (simp; done) | (simp; omega)) ?_; clear M; intro w11 M
    simp only [putL, List.set_cons_zero, List.set_cons_succ, Nat.reduceAdd] at M
    refine st_store (sz := 5) (us := [_, _, _, _, _]) S M 0 rfl (by kernel_rfl) rfl rfl rfl rfl rfl rfl (by first | decide | (simp; done) | (simp; omega)) ?_; clear M; intro w12 M
    simp only [putL, List.set_cons_zero, List.set_cons_succ, Nat.reduceAdd] at M
    refine st_go [1] S rfl (by kernel_rfl) ?_; clear S a; intro a S
    refine nxC ?_
    refine wp_ret ?_
    refine then_ret ?_
    refine end_three S rfl (res_agg (cs := [_, _, _, _]) (by kernel_rfl) rfl rfl (M.cellsAt (k := 4) 1 rfl rfl)) (res_agg (cs := [_, _, _, _, _]) (by kernel_rfl) rfl rfl (M.cellsAt (k := 5) 0 rfl rfl)) (res_tmp rfl) ?_
    obtain ⟨lo, hi, M2⟩ := nilSes (M.drop 0 |>.drop 0 |>.drop 0 |>.drop 0 |>.drop 0)
    have hNo : ¬ (s.May ∧ (0 ≤ c.kind ∧ c.kind ≤ 4) ∧ (0 ≤ st ∧ st ≤ 1048576)) := by
      rintro ⟨h5, h6, h7⟩
      rcases hr with ⟨h1, h2⟩ | ⟨h1, h2⟩
      · omega
      · exact h2 h5
    exact ⟨Ses.none, Tol.none, 2, _, _, _, _, _, _, _, rfl, M2, fun h => absurd h (by decide), fun _ => hNo⟩
  clear S; intro h26 S
  refine st_go [1, 1, 1, 1] S rfl (by kernel_rfl) ?_; clear S a; intro a S
  refine st_if (t := 30) S rfl ?_ ?_
  · clear S; intro h30 S
    refine st_go [0, 0, 1] S rfl (by kernel_rfl) ?_; clear S a; intro a S
    replace S := S.sub [(0, _), (1, _), (2, _), (3, _), (4, _), (5, _), (6, _), (8, _), (9, _), (10, _), (33, _)] rfl
    refine nxC ?_
    refine st_condT S rfl ?_
    refine nxD ?_
    refine st_y S rfl rfl rfl (y_build (ps := []) (pl := [(0, 1), (1, 1), (2, 1), (3, 1)]) (z := [.slice none 0 0, .int .i64 0, .int .i64 0, .slice none 0 0]) (cs := [_, _, _, _]) S (by kernel_rfl) rfl (rfl)) ?_; clear S a; intro a S
    refine st_y S rfl rfl rfl (y_build (ps := []) (pl := [(0, 1), (1, 1), (2, 1), (3, 1), (4, 1)]) (z := [.slice none 0 0, .slice none 0 0, .slice none 0 0, .slice none 0 0, .slice none 0 0]) (cs := [_, _, _, _, _]) S (by kernel_rfl) rfl (rfl)) ?_; clear S a; intro a S
    refine st_store (sz := 4) (us := [_, _, _, _]) S M 1 rfl (by kernel_rfl) rfl rfl rfl rfl rfl rfl (by first | decide | (simp; done) | (simp; omega)) ?_; clear M; intro w13 M
    simp only [putL, List.set_cons_zero, List.set_cons_succ, Nat.reduceAdd] at M
    refine st_store (sz := 5) (us := [_, _, _, _, _]) S M 0 rfl (by kernel_rfl) rfl rfl rfl rfl rfl rfl (by first | decide | (simp; done) | (simp; omega)) ?_; clear M; intro w14 M
    simp only [putL, List.set_cons_zero, List.set_cons_succ, Nat.reduceAdd] at M
    refine st_go [1] S rfl (by kernel_rfl) ?_; clear S a; intro a S
    refine nxC ?_
    refine wp_ret ?_
    refine then_ret ?_
    refine end_three S rfl (res_agg (cs := [_, _, _, _]) (by kernel_rfl) rfl rfl (M.cellsAt (k := 4) 1 rfl rfl)) (res_agg (cs := [_, _, _, _, _]) (by kernel_rfl) rfl rfl (M.cellsAt (k := 5) 0 rfl rfl)) (res_tmp rfl) ?_
    obtain ⟨lo, hi, M2⟩ := nilSes (M.drop 0 |>.drop 0 |>.drop 0 |>.drop 0 |>.drop 0)
    have hNo : ¬ (s.May ∧ (0 ≤ c.kind ∧ c.kind ≤ 4) ∧ (0 ≤ st ∧ st ≤ 1048576)) := by
      rintro ⟨h5, h6, h7⟩
      rcases hr with ⟨h1, h2⟩ | ⟨h1, h2⟩
      · omega
      · exact h2 h5
    exact ⟨Ses.none, Tol.none, 2, _, _, _, _, _, _, _, rfl, M2, fun h => absurd h (by decide), fun _ => hNo⟩
  clear S; intro h30 S
  refine st_go [1, 1, 1] S rfl (by kernel_rfl) ?_; clear S a; intro a S
  replace S := S.sub [(0, _), (1, _), (2, _), (3, _), (4, _), (5, _), (6, _), (8, _), (9, _), (10, _), (33, _)] rfl
  refine nxC ?_
  refine st_if (t := 33) S rfl ?_ ?_
  · clear S; intro h33 S
    refine st_condT S rfl ?_
    refine nxD ?_
    refine st_y S rfl rfl rfl (y_build (ps := []) (pl := [(0, 1), (1, 1), (2, 1), (3, 1)]) (z := [.slice none 0 0, .int .i64 0, .int .i64 0, .slice none 0 0]) (cs := [_, _, _, _]) S (by kernel_rfl) rfl (rfl)) ?_; clear S a; intro a S
    refine st_y S rfl rfl rfl (y_build (ps := []) (pl := [(0, 1), (1, 1), (2, 1), (3, 1), (4, 1)]) (z := [.slice none 0 0, .slice none 0 0, .slice none 0 0, .slice none 0 0, .slice none 0 0]) (cs := [_, _, _, _, _]) S (by kernel_rfl) rfl (rfl)) ?_; clear S a; intro a S
    refine st_store (sz := 4) (us := [_, _, _, _]) S M 1 rfl (by kernel_rfl) rfl rfl rfl rfl rfl rfl (by first | decide | (simp; done) | (simp; omega)) ?_; clear M; intro w15 M
    simp only [putL, List.set_cons_zero, List.set_cons_succ, Nat.reduceAdd] at M
    refine st_store (sz := 5) (us := [_, _, _, _, _]) S M 0 rfl (by kernel_rfl) rfl rfl rfl rfl rfl rfl (by first | decide | (simp; done) | (simp; omega)) ?_; clear M; intro w16 M
    simp only [putL, List.set_cons_zero, List.set_cons_succ, Nat.reduceAdd] at M
    refine st_go [1] S rfl (by kernel_rfl) ?_; clear S a; intro a S
    refine nxC ?_
    refine wp_ret ?_
    refine then_ret ?_
    refine end_three S rfl (res_agg (cs := [_, _, _, _]) (by kernel_rfl) rfl rfl (M.cellsAt (k := 4) 1 rfl rfl)) (res_agg (cs := [_, _, _, _, _]) (by kernel_rfl) rfl rfl (M.cellsAt (k := 5) 0 rfl rfl)) (res_tmp rfl) ?_
    obtain ⟨lo, hi, M2⟩ := nilSes (M.drop 0 |>.drop 0 |>.drop 0 |>.drop 0 |>.drop 0)
    have hNo : ¬ (s.May ∧ (0 ≤ c.kind ∧ c.kind ≤ 4) ∧ (0 ≤ st ∧ st ≤ 1048576)) := by
      rintro ⟨h5, h6, h7⟩
      rcases hr with ⟨h1, h2⟩ | ⟨h1, h2⟩
      · omega
      · exact h2 h5
    exact ⟨Ses.none, Tol.none, 2, _, _, _, _, _, _, _, rfl, M2, fun h => absurd h (by decide), fun _ => hNo⟩
  clear S; intro h33 S
  refine st_condF S rfl ?_
  refine wp_skip ?_
  refine then_normal ?_
  refine wp_seq ?_
  have hm : s.May := by
    rcases hr with ⟨-, h⟩ | ⟨h, -⟩
    · exact h
    · omega
  have hml := hm.len
  refine wp_regionKC (C := fun W => CellsAt W bF0 0 of.cellsL) [1] #[false, false, false, false, false, false] rfl M (by kernel_rfl) ?_; clear M; intro w17 M; have hC := M.cellsAt (o := 0) (k := 8) 2 rfl rfl
  refine kc_read (listed' := #[true, false, false, false, false, false]) 0 S rfl rfl rfl rfl (by kernel_rfl) rfl (fun _ d _ _ _ h => by cases d <;> exact h) hC (fun w hW => have M := M.grow hW; y_loadAgg (cs := [_, _, _, _]) S (by kernel_rfl) rfl rfl (M.cellsAt (k := 4) 4 rfl rfl)) ?_; clear S a; intro a S
  refine kc_readC (listed' := #[true, false, true, false, false, false]) 2 S rfl rfl rfl rfl (by kernel_rfl) rfl (fun _ d _ _ _ h => by cases d <;> exact h) hC (fun w hC => y_loadAgg (cs := [_, _, _, _, _, _, _, _]) S (by kernel_rfl) rfl rfl (hC)) ?_; clear S a; intro a S
  refine kc_one (listed' := #[true, true, true, false, false, false]) 1 rfl (by kernel_rfl) rfl ?_
  refine st_call (xs := [(Operand.tmp 36)]) S (enters_of Try.func18 (by decide) rfl) rfl rfl rfl (copied_any (A := _ :: _ :: _ :: _ :: _ :: A) s va oa vc oc (fun W M9 => hR W (M9.sub (.cons _ (.cons _ (.cons _ (.cons _ (.cons _ (List.Sublist.refl _)))))))) M (by omega) hov) ?_
  rintro _ w18 ⟨rl, ro, rfl, M1⟩; refine ⟨_, rfl, ?_⟩; clear S M a; intro a S; have M := M1; clear M1
  replace hC := M.cellsAt (o := 0) (k := 8) 4 rfl rfl
  refine wpList_nil ?_; refine then_normal ?_; refine ⟨fun h => absurd h (by decide), hC, ?_⟩
  refine kc_readC (listed' := #[true, true, true, true, false, false]) 3 S rfl rfl rfl rfl (by kernel_rfl) rfl (fun _ d _ _ _ h => by cases d <;> exact h) hC (fun w _ => y_build (ps := [(0, (Operand.tmp 37)), (2, (Operand.tmp 38))]) (pl := [(0, 4), (4, 5), (9, 8)]) (z := [.slice none 0 0, .int .i64 0, .int .i64 0, .slice none 0 0, .slice none 0 0, .slice none 0 0, .slice none 0 0, .slice none 0 0, .slice none 0 0, .int .i64 0, .int .i64 0, .int .i64 0, .int .i64 0, .int .i64 0, .int .i64 0, .int .i64 0, .int .i64 0]) (cs := [_, _, _, _, _, _, _, _, _, _, _, _, _, _, _, _, _]) S (by kernel_rfl) rfl (rfl)) ?_; clear S a; intro a S
  refine kc_one (listed' := #[true, true, true, true, true, false]) 4 rfl (by kernel_rfl) rfl ?_
  refine st_box S M rfl rfl rfl #[_, _, _, _, _, _, _, _, _, _, _, _, _, _, _, _, _] rfl ?_; clear S M a; intro a w19 bB S M hB
  replace hC := M.cellsAt (o := 0) (k := 8) 5 rfl rfl
  refine wpList_nil ?_; refine then_normal ?_; refine ⟨fun _ => hB, hC, ?_⟩
  refine kc_readC (listed' := #[true, true, true, true, true, true]) 5 S rfl rfl rfl rfl (by kernel_rfl) rfl (fun _ d _ _ _ h => by cases d <;> exact h) hC (fun w _ => y_assign S rfl) ?_; clear S a; intro a S
  refine kc_end (by kernel_rfl) ?_
  refine then_normal ?_
  refine wp_seq ?_
  skip
  replace M := M.front 2 rfl
  simp only [List.eraseIdx_cons_succ, List.eraseIdx_cons_zero] at M
  replace M := M.front 2 rfl
  simp only [List.eraseIdx_cons_succ, List.eraseIdx_cons_zero] at M
  replace M := M.front 2 rfl
  simp only [List.eraseIdx_cons_succ, List.eraseIdx_cons_zero] at M
  obtain ⟨lo, hi, M2⟩ := nilTol M
  obtain ⟨E1, hE1, M3⟩ := Dsk.close (b := bB) (D := ⟨s, Tol.none, of⟩) rl ro ⟨none, 0, lo, hi⟩ ⟨none, 0, lo, hi⟩ ⟨none, 0, lo, hi⟩ ⟨none, 0, lo, hi⟩ ⟨none, 0, lo, hi⟩ (M2.perm (List.perm_append_comm_assoc (tolE Tol.none _ _ _ _ _) [_, _, _] _))
  clear M; have M := M3; clear M2 M3
  have hty : (⟨s, Tol.none, of⟩ : Dsk).tiny := ⟨by show s.l.length ≤ 500; omega, hov, Nat.zero_le _, Nat.zero_le _, Nat.zero_le _, Nat.zero_le _, Nat.zero_le _⟩
  refine wp_region_lit ?_
  refine st_go [1] S rfl (by kernel_rfl) ?_; clear S a; intro a S
  refine st_y S rfl rfl rfl (y_makeFunc (fs := [(Operand.tmp 41)]) (cs := []) S rfl rfl) ?_; clear S a; intro a S
  refine st_go [1] S rfl (by kernel_rfl) ?_; clear S a; intro a S
  refine st_y S rfl rfl rfl (y_makeFunc (fs := [(Operand.tmp 43)]) (cs := []) S rfl rfl) ?_; clear S a; intro a S
  refine st_go [1] S rfl (by kernel_rfl) ?_; clear S a; intro a S
  refine st_y S rfl rfl rfl (y_makeFunc (fs := [(Operand.tmp 45)]) (cs := []) S rfl rfl) ?_; clear S a; intro a S
  refine st_go [1] S rfl (by kernel_rfl) ?_; clear S a; intro a S
  refine st_y S rfl rfl rfl (y_makeFunc (fs := [(Operand.tmp 47)]) (cs := []) S rfl rfl) ?_; clear S a; intro a S
  refine st_go [1] S rfl (by kernel_rfl) ?_; clear S a; intro a S
  refine st_y S rfl rfl rfl (y_makeFunc (fs := [(Operand.tmp 49)]) (cs := []) S rfl rfl) ?_; clear S a; intro a S
  refine st_y S rfl rfl rfl (y_buildA (ps := [(0, (Operand.tmp 42)), (1, (Operand.tmp 44)), (2, (Operand.tmp 46)), (3, (Operand.tmp 48)), (4, (Operand.tmp 50))]) (sz := 1) (z := [.nilFunc, .nilFunc, .nilFunc, .nilFunc, .nilFunc]) (cs := [_, _, _, _, _]) S (by kernel_rfl) rfl rfl) ?_; clear S a; intro a S
  refine st_alloc S M rfl rfl #[.nilFunc, .nilFunc, .nilFunc, .nilFunc, .nilFunc] (by kernel_rfl) ?_; clear S M a; intro a w20 bK0 S M hB
  refine st_store (sz := 5) (us := [_, _, _, _, _]) S M 0 rfl (by kernel_rfl) rfl rfl rfl rfl rfl rfl (by first | decide | (simp; done) | (simp; omega)) ?_; clear M; intro w21 M
  simp only [putL, List.set_cons_zero, List.set_cons_succ, Nat.reduceAdd] at M
  replace S := S.sub [(0, _), (1, _), (2, _), (3, _), (4, _), (5, _), (6, _), (8, _), (9, _), (10, _), (33, _), (11, _), (12, _)] rfl
  refine nxC ?_
  refine wp_seq ?_
  refine wp_regionK [6] #[false, false, false, false, false, false, false] rfl M (by kernel_rfl) ?_; clear M; intro w22 M
  refine k_pure (listed' := #[true, false, false, false, false, false, false]) 0 S rfl rfl rfl rfl (by kernel_rfl) rfl (fun _ d _ _ _ h => by cases d <;> exact h) (fun w => y_fieldAddr (k := 0) S (by kernel_rfl) rfl) ?_; clear S a; intro a S
  refine k_read (listed' := #[true, true, false, false, false, false, false]) 1 S rfl rfl rfl rfl (by kernel_rfl) rfl (fun _ d _ _ _ h => by cases d <;> exact h) (fun w hW => have M := M.grow hW; y_load S (by kernel_rfl) rfl (M.cell 4 rfl rfl)) ?_; clear S a; intro a S
  refine k_pure (listed' := #[true, true, true, false, false, false, false]) 2 S rfl rfl rfl rfl (by kernel_rfl) rfl (fun _ d _ _ _ h => by cases d <;> exact h) (fun w => y_indexA (m := 5) (sz := 1) S (by kernel_rfl) rfl rfl (by first | omega | (simp; done) | (simp; omega))) ?_; clear S a; intro a S
  try simp only [Int.toNat_natCast, Nat.mul_one, Nat.zero_add] at S
  refine k_read (listed' := #[true, true, true, true, false, false, false]) 3 S rfl rfl rfl rfl (by kernel_rfl) rfl (fun _ d _ _ _ h => by cases d <;> exact h) (fun w hW => have M := M.grow hW; y_load S (by kernel_rfl) rfl (M.cell 0 rfl (does_cell c _ (by omega)))) ?_; clear S a; intro a S
  refine k_read (listed' := #[true, true, true, true, true, false, false]) 4 S rfl rfl rfl rfl (by kernel_rfl) rfl (fun _ d _ _ _ h => by cases d <;> exact h) (fun w hW => have M := M.grow hW; y_loadAgg (cs := [_, _, _, _, _, _]) S (by kernel_rfl) rfl rfl (M.cellsAt (k := 6) 4 rfl rfl)) ?_; clear S a; intro a S
  refine k_pure (listed' := #[true, true, true, true, true, true, false]) 5 S rfl rfl rfl rfl (by kernel_rfl) rfl (fun _ d _ _ _ h => by cases d <;> exact h) (fun w => y_move S rfl) ?_; clear S a; intro a S
  refine k_one (listed' := #[true, true, true, true, true, true, true]) 6 rfl (by kernel_rfl) rfl ?_
  refine st_callB (xs := [(Operand.tmp 56), (Operand.tmp 57)]) (fi := [.pointer (some ⟨bB, 0, none⟩)]) (ca := []) S (does_enters c) rfl rfl (rfl) rfl (does_any (A := _ :: _ :: _ :: _ :: _ :: _ :: A) c da dc bs st hE1 M hty hm hsh (fun W M9 => hv W (M9.sub (.cons _ (.cons _ (.cons _ (.cons _ (.cons _ (.cons _ (List.Sublist.refl _)))))))))) ?_
  rintro _ w23 ⟨rfl, D', E2, hD', hE2, M1⟩; refine ⟨_, rfl, ?_⟩; clear S M a; intro a S; have M := M1; clear M1
  refine wpList_nil ?_; refine then_normal ?_; refine ⟨fun h => absurd h (by decide), ?_⟩
  refine k_end (by kernel_rfl) ?_
  refine then_normal ?_
  refine wp_seq ?_
  obtain ⟨rl2, ro2, rm2, ra2, rs2, rc2, re2, M1⟩ := Dsk.open (A := _ :: _ :: _ :: _ :: _ :: _ :: A) hE2 M
  clear M; have M := M1; clear M1
  refine wp_regionKC (C := fun W => CellsAt W bB 4 (tolL D'.t rm2 ra2 rs2 rc2 re2)) [8, 9] #[false, false, false, false, false, false, false, false, false, false, false] rfl M (by kernel_rfl) ?_; clear M; intro w24 M; have hC := M.cellsAt (o := 4) (k := 5) 0 rfl rfl
  refine kc_readC (listed' := #[true, false, false, false, false, false, false, false, false, false, false]) 0 S rfl rfl rfl rfl (by kernel_rfl) rfl (fun _ d _ _ _ h => by cases d <;> exact h) hC (fun w _ => y_move S rfl) ?_; clear S a; intro a S
  refine kc_readC (listed' := #[true, true, false, false, false, false, false, false, false, false, false]) 1 S rfl rfl rfl rfl (by kernel_rfl) rfl (fun _ d _ _ _ h => by cases d <;> exact h) hC (fun w _ => y_nilCheck S rfl) ?_; clear S a; intro a S
  refine kc_readC (listed' := #[true, true, true, false, false, false, false, false, false, false, false]) 2 S rfl rfl rfl rfl (by kernel_rfl) rfl (fun _ d _ _ _ h => by cases d <;> exact h) hC (fun w _ => y_fieldAddr (k := 0) S (by kernel_rfl) rfl) ?_; clear S a; intro a S
  refine kc_read (listed' := #[true, true, true, true, false, false, false, false, false, false, false]) 3 S rfl rfl rfl rfl (by kernel_rfl) rfl (fun _ d _ _ _ h => by cases d <;> exact h) hC (fun w hW => have M := M.grow hW; y_loadAgg (cs := [_, _, _, _]) S (by kernel_rfl) rfl rfl (M.cellsAt (k := 4) 0 rfl rfl)) ?_; clear S a; intro a S
  refine kc_readC (listed' := #[true, true, true, true, true, false, false, false, false, false, false]) 4 S rfl rfl rfl rfl (by kernel_rfl) rfl (fun _ d _ _ _ h => by cases d <;> exact h) hC (fun w _ => y_move S rfl) ?_; clear S a; intro a S
  refine kc_readC (listed' := #[true, true, true, true, true, true, false, false, false, false, false]) 5 S rfl rfl rfl rfl (by kernel_rfl) rfl (fun _ d _ _ _ h => by cases d <;> exact h) hC (fun w _ => y_nilCheck S rfl) ?_; clear S a; intro a S
  refine kc_readC (listed' := #[true, true, true, true, true, true, true, false, false, false, false]) 6 S rfl rfl rfl rfl (by kernel_rfl) rfl (fun _ d _ _ _ h => by cases d <;> exact h) hC (fun w _ => y_fieldAddr (k := 4) S (by kernel_rfl) rfl) ?_; clear S a; intro a S
  refine kc_readC (listed' := #[true, true, true, true, true, true, true, true, false, false, false]) 7 S rfl rfl rfl rfl (by kernel_rfl) rfl (fun _ d _ _ _ h => by cases d <;> exact h) hC (fun w hC => y_loadAgg (cs := [_, _, _, _, _]) S (by kernel_rfl) rfl rfl (hC)) ?_; clear S a; intro a S
  refine kc_one (listed' := #[true, true, true, true, true, true, true, true, true, false, false]) 8 rfl (by kernel_rfl) rfl ?_
  refine st_store (sz := 4) (us := [_, _, _, _]) S M 10 rfl (by kernel_rfl) rfl rfl rfl rfl rfl rfl (by first | decide | (simp; done) | (simp; omega)) ?_; clear M; intro w25 M
  simp only [putL, List.set_cons_zero, List.set_cons_succ, Nat.reduceAdd] at M
  replace hC := M.cellsAt (o := 4) (k := 5) 0 rfl rfl
  refine wpList_nil ?_; refine then_normal ?_; refine ⟨fun h => absurd h (by decide), hC, ?_⟩
  refine kc_one (listed' := #[true, true, true, true, true, true, true, true, true, true, false]) 9 rfl (by kernel_rfl) rfl ?_
  refine st_store (sz := 5) (us := [_, _, _, _, _]) S M 9 rfl (by kernel_rfl) rfl rfl rfl rfl rfl rfl (by first | decide | (simp; done) | (simp; omega)) ?_; clear M; intro w26 M
  simp only [putL, List.set_cons_zero, List.set_cons_succ, Nat.reduceAdd] at M
  replace hC := M.cellsAt (o := 4) (k := 5) 0 rfl rfl
  refine wpList_nil ?_; refine then_normal ?_; refine ⟨fun h => absurd h (by decide), hC, ?_⟩
  refine kc_readC (listed' := #[true, true, true, true, true, true, true, true, true, true, true]) 10 S rfl rfl rfl rfl (by kernel_rfl) rfl (fun _ d _ _ _ h => by cases d <;> exact h) hC (fun w _ => y_assign S rfl) ?_; clear S a; intro a S
  refine kc_end (by kernel_rfl) ?_
  replace S := S.sub [(0, _), (1, _), (2, _), (3, _), (4, _), (5, _), (6, _), (8, _), (9, _), (33, _), (11, _), (12, _), (10, _)] rfl
  refine then_normal ?_
  refine wp_ret ?_
  refine end_three S rfl (res_agg (cs := [_, _, _, _]) (by kernel_rfl) rfl rfl (M.cellsAt (k := 4) 10 rfl rfl)) (res_agg (cs := [_, _, _, _, _]) (by kernel_rfl) rfl rfl (M.cellsAt (k := 5) 9 rfl rfl)) (res_tmp rfl) ?_
  refine ⟨D'.s, D'.t, 0, rl2, ro2, rm2, ra2, rs2, rc2, re2, rfl, ?_, fun _ => ⟨hm, by omega, by omega, D', hD', rfl, rfl⟩, fun h => absurd rfl h⟩
  exact ((((((M.drop 0).drop 7).drop 7).drop 7).drop 7).drop 7).drop 7
end Go.Proofs.Ytniijiipkfhjgaa

namespace Go.Proofs.Ytniijiipkfhjgaa
open Go.RowKit Go.Sort
/-- where one alone is open: it waits not for this answer to its exec -/
def Ses.NoHear (s : Ses) (m : Msg) : Prop := ∀ o, s.l = [o] → o.nm = m.name → m.kind = 3 → o.ph = 1 → m.frm = o.at_ → m.n ≠ o.ex.n
/-- what comes of a message -/
def HearR (s : Ses) (of : Of8) (m : Msg) (s' : Ses) (t' : Tol) : Prop :=
  (s' = s ∧ t' = Tol.none ∧ s.NoHear m) ∨ ∃ (i : Nat) (o : Ope) (D' : Dsk), s.l[i]? = some o ∧ o.nm = m.name ∧ s' = D'.s ∧ t' = D'.t ∧
    ((m.kind = 3 ∧ o.ph = 1 ∧ m.frm = o.at_ ∧ m.n = o.ex.n ∧ D' = Dsk.did ⟨s, Tol.none, of⟩ i o m) ∨ (m.kind = 10 ∧ o.ph = 2 ∧ m.frm = o.at_ ∧ D' = Dsk.ended ⟨s, Tol.none, of⟩ i o 3 m.e m.e true))
theorem FirstP.get {α : Type} {l : List α} {p : α → Bool} {j : Int} (h : FirstP l p j) (h0 : 0 ≤ j) : ∃ (k : Nat) (q : α), j = (k : Int) ∧ l[k]? = some q ∧ p q = true := by
  rcases h with ⟨k, q, h1, h2, h3, -⟩ | ⟨h1, -⟩
  · exact ⟨k, q, h1, h2, h3⟩
  · omega
set_option maxHeartbeats 4000000 in
theorem hear_any {wo w : World} {A : List Ent} (s : Ses) (va oa : Option Addr) (vc oc : Nat) (m : Msg) (wa : Option Addr) (wc : Nat) (x : List Wr) (of : Of8) (hR : RdS wo A s va vc oa oc) (M : Mem wo w A) (hov : s.over.length ≤ 500) (hsh : ∀ o ∈ s.l, ShOk o.sh) (hW : ∀ w, Mem wo w A → Ws 0 w.heap.size w (.slice wa x.length wc) x) :
    Calls Try.prog 10 #[.agg #[.slice va s.l.length vc, .int .i64 s.last, .int .i64 s.inc, .slice oa s.over.length oc], .agg (msgW m (.slice wa x.length wc)).toArray, .agg of.cellsL.toArray] w fun e w' => StepN wo A e w' (¬ (s.May ∧ m.may x = true)) fun s' t' => s.May ∧ m.may x = true ∧ HearR s of m s' t' := by
  refine calls_enter Try.func10 rfl 104 rfl rfl ?_; intro a S
  refine nxD ?_
  refine st_box S M rfl rfl rfl #[_, _, _, _] rfl ?_; clear S M a; intro a w1 bS0 S M hB
  refine st_box S M rfl rfl rfl #[_, _, _, _, _, _, _, _, _, _, _, _, _, _, _, _, _, _, _, _, _, _, _, _] rfl ?_; clear S M a; intro a w2 bC0 S M hB
  refine st_box S M rfl rfl rfl #[_, _, _, _, _, _, _, _] rfl ?_; clear S M a; intro a w3 bF0 S M hB
  refine st_alloc S M rfl rfl #[.slice none 0 0, .int .i64 0, .int .i64 0, .slice none 0 0] (by kernel_rfl) ?_; clear S M a; intro a w4 bR0 S M hB
  refine st_alloc S M rfl rfl #[.slice none 0 0, .slice none 0 0, .slice none 0 0, .slice none 0 0, .slice none 0 0] (by kernel_rfl) ?_; clear S M a; intro a w5 bT0 S M hB
  refine st_go [1] S rfl (by kernel_rfl) ?_; clear S a; intro a S
  refine nxC ?_
  refine wp_seq ?_
  refine nxD ?_
  refine st_y S rfl rfl rfl (y_loadAgg (cs := [_, _, _, _]) S (by kernel_rfl) rfl rfl (M.cellsAt (k := 4) 4 rfl rfl)) ?_; clear S a; intro a S
  refine st_call (xs := [(Operand.tmp 12)]) S (enters_of Try.func16 (by decide) rfl) rfl rfl rfl (check_any s va oa vc oc _ (hR _ (M.sub (.cons _ (.cons _ (.cons _ (.cons _ (.cons _ (List.Sublist.refl _)))))))).1 (hR _ (M.sub (.cons _ (.cons _ (.cons _ (.cons _ (.cons _ (List.Sublist.refl _)))))))).2 hsh) ?_
  rintro _ w6 ⟨r, rfl, hK, hr⟩; refine ⟨_, rfl, ?_⟩; clear S a; intro a S; replace M := M.grow hK
  refine st_go [1, 1] S rfl (by kernel_rfl) ?_; clear S a; intro a S
  refine st_if (t := 15) S rfl ?_ ?_
  · clear S; intro h15 S
    refine st_go [0, 0, 0, 1] S rfl (by kernel_rfl) ?_; clear S a; intro a S
    refine nxC ?_
    refine st_condT S rfl ?_
    refine nxD ?_
    refine st_y S rfl rfl rfl (y_build (ps := []) (pl := [(0, 1), (1, 1), (2, 1), (3, 1)]) (z := [.slice none 0 0, .int .i64 0, .int .i64 0, .slice none 0 0]) (cs := [_, _, _, _]) S (by kernel_rfl) rfl (rfl)) ?_; clear S a; intro a S
    refine st_y S rfl rfl rfl (y_build (ps := []) (pl := [(0, 1), (1, 1), (2, 1), (3, 1), (4, 1)]) (z := [.slice none 0 0, .slice none 0 0, .slice none 0 0, .slice none 0 0, .slice none 0 0]) (cs := [_, _, _, _, _]) S (by kernel_rfl) rfl (rfl)) ?_; clear S a; intro a S
    refine st_store (sz := 4) (us := [_, _, _, _]) S M 1 rfl (by kernel_rfl) rfl rfl rfl rfl rfl rfl (by first | decide | (simp; done) | (simp; omega)) ?_; clear M; intro w7 M
    simp only [putL, List.set_cons_zero, List.set_cons_succ, Nat.reduceAdd] at M
    refine st_store (sz := 5) (us := [_, _, _, _, _]) S M 0 rfl (by kernel_rfl) rfl rfl rfl rfl rfl rfl (by first | decide | (simp; done) | (simp; omega)) ?_; clear M; intro w8 M
    simp only [putL, List.set_cons_zero, List.set_cons_succ, Nat.reduceAdd] at M
    refine st_go [1] S rfl (by kernel_rfl) ?_; clear S a; intro a S
    refine nxC ?_
    refine wp_ret ?_
    refine then_ret ?_
    refine end_three S rfl (res_agg (cs := [_, _, _, _]) (by kernel_rfl) rfl rfl (M.cellsAt (k := 4) 1 rfl rfl)) (res_agg (cs := [_, _, _, _, _]) (by kernel_rfl) rfl rfl (M.cellsAt (k := 5) 0 rfl rfl)) (res_tmp rfl) ?_
    obtain ⟨lo, hi, M2⟩ := nilSes (M.drop 0 |>.drop 0 |>.drop 0 |>.drop 0 |>.drop 0)
    have hNo : ¬ (s.May ∧ m.may x = true) := by
      rintro ⟨h5, h6⟩
      rcases hr with ⟨h1, h2⟩ | ⟨h1, h2⟩
      · first | omega | simp_all
      · exact h2 h5
    exact ⟨Ses.none, Tol.none, 2, _, _, _, _, _, _, _, rfl, M2, fun h => absurd h (by decide), fun _ => hNo⟩
  clear S; intro h15 S
  refine st_y S rfl rfl rfl (y_loadAgg (cs := [_, _, _, _, _, _, _, _, _, _, _, _, _, _, _, _, _, _, _, _, _, _, _, _]) S (by kernel_rfl) rfl rfl (M.cellsAt (k := 24) 3 rfl rfl)) ?_; clear S a; intro a S
  refine st_call (xs := [(Operand.tmp 16)]) S (enters_of Try.func21 (by decide) rfl) rfl rfl rfl (mayM_any m wa x.length wc x _ (hW _ (M.sub (.cons _ (.cons _ (.cons _ (.cons _ (.cons _ (List.Sublist.refl _))))))))) ?_
  rintro _ w9 ⟨rfl, hK⟩; refine ⟨_, rfl, ?_⟩; clear S a; intro a S; replace M := M.grow hK
  refine st_go [1, 1] S rfl (by kernel_rfl) ?_; clear S a; intro a S
  refine nxC ?_
  refine st_if (t := 19) S rfl ?_ ?_
  · clear S; intro h19 S
    refine st_condT S rfl ?_
    refine nxD ?_
    refine st_y S rfl rfl rfl (y_build (ps := []) (pl := [(0, 1), (1, 1), (2, 1), (3, 1)]) (z := [.slice none 0 0, .int .i64 0, .int .i64 0, .slice none 0 0]) (cs := [_, _, _, _]) S (by kernel_rfl) rfl (rfl)) ?_; clear S a; intro a S
    refine st_y S rfl rfl rfl (y_build (ps := []) (pl := [(0, 1), (1, 1), (2, 1), (3, 1), (4, 1)]) (z := [.slice none 0 0, .slice none 0 0, .slice none 0 0, .slice none 0 0, .slice none 0 0]) (cs := [_, _, _, _, _]) S (by kernel_rfl) rfl (rfl)) ?_; clear S a; intro a S
    refine st_store (sz := 4) (us := [_, _, _, _]) S M 1 rfl (by kernel_rfl) rfl rfl rfl rfl rfl rfl (by first | decide | (simp; done) | (simp; omega)) ?_; clear M; intro w10 M
    simp only [putL, List.set_cons_zero, List.set_cons_succ, Nat.reduceAdd] at M
    refine st_store (sz := 5) (us := [_, _, _, _, _]) S M 0 rfl (by kernel_rfl) rfl rfl rfl rfl rfl rfl (by first | decide | (simp; done) | (simp; omega)) ?_; clear M; intro w11 M
    simp only [putL, List.set_cons_zero, List.set_cons_succ, Nat.reduceAdd] at M
    refine st_go [1] S rfl (by kernel_rfl) ?_; clear S a; intro a S
    refine nxC ?_
    refine wp_ret ?_
    refine then_ret ?_
    refine end_three S rfl (res_agg (cs := [_, _, _, _]) (by kernel_rfl) rfl rfl (M.cellsAt (k := 4) 1 rfl rfl)) (res_agg (cs := [_, _, _, _, _]) (by kernel_rfl) rfl rfl (M.cellsAt (k := 5) 0 rfl rfl)) (res_tmp rfl) ?_
    obtain ⟨lo, hi, M2⟩ := nilSes (M.drop 0 |>.drop 0 |>.drop 0 |>.drop 0 |>.drop 0)
    have hNo : ¬ (s.May ∧ m.may x = true) := by
      rintro ⟨h5, h6⟩
      rcases hr with ⟨h1, h2⟩ | ⟨h1, h2⟩
      · first | omega | simp_all
      · exact h2 h5
    exact ⟨Ses.none, Tol.none, 2, _, _, _, _, _, _, _, rfl, M2, fun h => absurd h (by decide), fun _ => hNo⟩
  clear S; intro h19 S
  refine st_condF S rfl ?_
  refine wp_skip ?_
  refine then_normal ?_
  refine wp_seq ?_
  have hm : s.May := by
    rcases hr with ⟨-, h⟩ | ⟨h, -⟩
    · exact h
    · omega
  have hml := hm.len
  refine wp_regionKC (C := fun W => CellsAt W bF0 0 of.cellsL) [1] #[false, false, false, false, false, false] rfl M (by kernel_rfl) ?_; clear M; intro w12 M; have hC := M.cellsAt (o := 0) (k := 8) 2 rfl rfl
  refine kc_read (listed' := #[true, false, false, false, false, false]) 0 S rfl rfl rfl rfl (by kernel_rfl) rfl (fun _ d _ _ _ h => by cases d <;> exact h) hC (fun w hW => have M := M.grow hW; y_loadAgg (cs := [_, _, _, _]) S (by kernel_rfl) rfl rfl (M.cellsAt (k := 4) 4 rfl rfl)) ?_; clear S a; intro a S
  refine kc_readC (listed' := #[true, false, true, false, false, false]) 2 S rfl rfl rfl rfl (by kernel_rfl) rfl (fun _ d _ _ _ h => by cases d <;> exact h) hC (fun w hC => y_loadAgg (cs := [_, _, _, _, _, _, _, _]) S (by kernel_rfl) rfl rfl (hC)) ?_; clear S a; intro a S
  refine kc_one (listed' := #[true, true, true, false, false, false]) 1 rfl (by kernel_rfl) rfl ?_
  refine st_call (xs := [(Operand.tmp 22)]) S (enters_of Try.func18 (by decide) rfl) rfl rfl rfl (copied_any (A := _ :: _ :: _ :: _ :: _ :: A) s va oa vc oc (fun W M9 => hR W (M9.sub (.cons _ (.cons _ (.cons _ (.cons _ (.cons _ (List.Sublist.refl _)))))))) M (by omega) hov) ?_
  rintro _ w13 ⟨rl, ro, rfl, M1⟩; refine ⟨_, rfl, ?_⟩; clear S M a; intro a S; have M := M1; clear M1
  replace hC := M.cellsAt (o := 0) (k := 8) 4 rfl rfl
  refine wpList_nil ?_; refine then_normal ?_; refine ⟨fun h => absurd h (by decide), hC, ?_⟩
  refine kc_readC (listed' := #[true, true, true, true, false, false]) 3 S rfl rfl rfl rfl (by kernel_rfl) rfl (fun _ d _ _ _ h => by cases d <;> exact h) hC (fun w _ => y_build (ps := [(0, (Operand.tmp 23)), (2, (Operand.tmp 24))]) (pl := [(0, 4), (4, 5), (9, 8)]) (z := [.slice none 0 0, .int .i64 0, .int .i64 0, .slice none 0 0, .slice none 0 0, .slice none 0 0, .slice none 0 0, .slice none 0 0, .slice none 0 0, .int .i64 0, .int .i64 0, .int .i64 0, .int .i64 0, .int .i64 0, .int .i64 0, .int .i64 0, .int .i64 0]) (cs := [_, _, _, _, _, _, _, _, _, _, _, _, _, _, _, _, _]) S (by kernel_rfl) rfl (rfl)) ?_; clear S a; intro a S
  refine kc_one (listed' := #[true, true, true, true, true, false]) 4 rfl (by kernel_rfl) rfl ?_
  refine st_box S M rfl rfl rfl #[_, _, _, _, _, _, _, _, _, _, _, _, _, _, _, _, _] rfl ?_; clear S M a; intro a w14 bB S M hB
  replace hC := M.cellsAt (o := 0) (k := 8) 5 rfl rfl
  refine wpList_nil ?_; refine then_normal ?_; refine ⟨fun _ => hB, hC, ?_⟩
  refine kc_readC (listed' := #[true, true, true, true, true, true]) 5 S rfl rfl rfl rfl (by kernel_rfl) rfl (fun _ d _ _ _ h => by cases d <;> exact h) hC (fun w _ => y_assign S rfl) ?_; clear S a; intro a S
  refine kc_end (by kernel_rfl) ?_
  refine then_normal ?_
  refine wp_cut (fun a w' => ∃ (D' : Dsk) (E2 : List Ent), HearR s of m D'.s D'.t ∧ DeskE bB D' E2 ∧ Sees 104 a [(6, .pointer (some ⟨bR0, 0, none⟩)), (7, .pointer (some ⟨bT0, 0, none⟩)), (9, .pointer (some ⟨bB, 0, none⟩))] ∧ Mem wo w' (.blk bT0 (tolL Tol.none ⟨none, 0, 0, 0⟩ ⟨none, 0, 0, 0⟩ ⟨none, 0, 0, 0⟩ ⟨none, 0, 0, 0⟩ ⟨none, 0, 0, 0⟩).toArray 54 :: .blk bR0 (sesL Ses.none ⟨none, 0, 0, 0⟩ ⟨none, 0, 0, 0⟩).toArray 29 :: (A ++ E2))) ?_ ?_
  · skip
    refine wp_seq ?_
    skip
    refine wp_regionK [] #[false, false, false, false, false, false, false, false] rfl M (by kernel_rfl) ?_; clear M; intro w15 M
    refine k_pure (listed' := #[true, false, false, false, false, false, false, false]) 0 S rfl rfl rfl rfl (by kernel_rfl) rfl (fun _ d _ _ _ h => by cases d <;> exact h) (fun w => y_move S rfl) ?_; clear S a; intro a S
    refine k_pure (listed' := #[true, true, false, false, false, false, false, false]) 1 S rfl rfl rfl rfl (by kernel_rfl) rfl (fun _ d _ _ _ h => by cases d <;> exact h) (fun w => y_nilCheck S rfl) ?_; clear S a; intro a S
    refine k_pure (listed' := #[true, true, true, false, false, false, false, false]) 2 S rfl rfl rfl rfl (by kernel_rfl) rfl (fun _ d _ _ _ h => by cases d <;> exact h) (fun w => y_fieldAddr (k := 0) S (by kernel_rfl) rfl) ?_; clear S a; intro a S
    refine k_read (listed' := #[true, true, true, true, false, false, false, false]) 3 S rfl rfl rfl rfl (by kernel_rfl) rfl (fun _ d _ _ _ h => by cases d <;> exact h) (fun w hW => have M := M.grow hW; y_loadAgg (cs := [_, _, _, _]) S (by kernel_rfl) rfl rfl (M.cellsAt (k := 4) 0 rfl rfl)) ?_; clear S a; intro a S
    refine k_pure (listed' := #[true, true, true, true, true, false, false, false]) 4 S rfl rfl rfl rfl (by kernel_rfl) rfl (fun _ d _ _ _ h => by cases d <;> exact h) (fun w => y_fieldAddr (k := 5) S (by kernel_rfl) rfl) ?_; clear S a; intro a S
    refine k_read (listed' := #[true, true, true, true, true, true, false, false]) 5 S rfl rfl rfl rfl (by kernel_rfl) rfl (fun _ d _ _ _ h => by cases d <;> exact h) (fun w hW => have M := M.grow hW; y_loadAgg (cs := [_, _, _]) S (by kernel_rfl) rfl rfl (M.cellsAt (k := 3) 6 rfl rfl)) ?_; clear S a; intro a S
    refine k_one (listed' := #[true, true, true, true, true, true, true, false]) 6 rfl (by kernel_rfl) rfl ?_
    refine st_call (xs := [(Operand.tmp 30), (Operand.tmp 32)]) S (enters_of Try.func22 (by decide) rfl) rfl rfl rfl (place_any rl.a rl.c s.l s.last s.inc (ro.v s.over.length) m.name _ (M.readAll 1 rfl (by unfold maxLen; omega))) ?_
    rintro _ w16 ⟨j, rfl, hK, hF⟩; refine ⟨_, rfl, ?_⟩; clear S a; intro a S; replace M := M.grow hK
    refine wpList_nil ?_; refine then_normal ?_; refine ⟨fun _ => hK, ?_⟩
    refine k_pure (listed' := #[true, true, true, true, true, true, true, true]) 7 S rfl rfl rfl rfl (by kernel_rfl) rfl (fun _ d _ _ _ h => by cases d <;> exact h) (fun w => y_assign S rfl) ?_; clear S a; intro a S
    refine k_end (by kernel_rfl) ?_
    replace S := S.sub [(0, _), (1, _), (2, _), (3, _), (4, _), (5, _), (6, _), (7, _), (8, _), (19, _), (9, _), (10, _)] rfl
    refine nxE ?_
    refine st_go [1, 1] S rfl (by kernel_rfl) ?_; clear S a; intro a S
    refine nxC ?_
    refine st_fi (t := 35) S rfl ?_ ?_
    · clear S; intro h35 S
      refine st_condF S rfl ?_
      refine wp_skip ?_
      refine then_normal ?_
      first
        | exact ⟨_, E2, .inr ⟨i, o, _, hio, Nm.eqb_iff.1 hnm, rfl, rfl, .inl ⟨by omega, by omega, by omega, by omega, rfl⟩⟩, hEd, S.sub _ rfl, (((M.drop 0).drop 2).drop 2).drop 2⟩
        | exact ⟨_, E2, .inr ⟨i, o, _, hio, Nm.eqb_iff.1 hnm, rfl, rfl, .inr ⟨by omega, by omega, by omega, rfl⟩⟩, hEe, S.sub _ rfl, (((M.drop 0).drop 2).drop 2).drop 2⟩
        | (have hNo : s.NoHear m := fun o9 h9 e1 e2 e3 e4 e5 => by
             have ho9 := hio
             rw [h9, show i = 0 by rw [h9] at hil; simpa using hil] at ho9
             obtain rfl := Option.some.inj ho9
             omega
           obtain ⟨lo, hi, M2⟩ := nilTol ((((M.drop 0).drop 5).drop 5).drop 5)
           obtain ⟨E1, hE1, M3⟩ := Dsk.close (b := bB) (D := ⟨s, Tol.none, of⟩) rl ro ⟨none, 0, lo, hi⟩ ⟨none, 0, lo, hi⟩ ⟨none, 0, lo, hi⟩ ⟨none, 0, lo, hi⟩ ⟨none, 0, lo, hi⟩ (M2.perm (List.perm_append_comm_assoc (tolE Tol.none _ _ _ _ _) [_, _, _] _))
           exact ⟨_, E1, .inl ⟨rfl, rfl, hNo⟩, hE1, S.sub _ rfl, M3⟩)
        | (have hNo : s.NoHear m := fun o9 h9 e1 e2 e3 e4 e5 => by
             rcases hF with ⟨k, q, h1, -⟩ | ⟨-, h2⟩
             · omega
             · have this : o9.nm.eqb m.name = false := h2 o9 (by rw [h9]; simp)
               rw [Nm.eqb_iff.2 e1] at this; exact absurd this (by decide)
           obtain ⟨lo, hi, M2⟩ := nilTol (((M.drop 5).drop 5).drop 5)
           obtain ⟨E1, hE1, M3⟩ := Dsk.close (b := bB) (D := ⟨s, Tol.none, of⟩) rl ro ⟨none, 0, lo, hi⟩ ⟨none, 0, lo, hi⟩ ⟨none, 0, lo, hi⟩ ⟨none, 0, lo, hi⟩ ⟨none, 0, lo, hi⟩ (M2.perm (List.perm_append_comm_assoc (tolE Tol.none _ _ _ _ _) [_, _, _] _))
           exact ⟨_, E1, .inl ⟨rfl, rfl, hNo⟩, hE1, S.sub _ rfl, M3⟩)
    clear S; intro h35 S
    refine st_condT S rfl ?_
    refine wp_seq ?_
    obtain ⟨i, o, rfl, hio, hnm⟩ := hF.get (by omega)
    obtain ⟨hil, -⟩ := List.getElem?_eq_some_iff.1 hio
    refine wp_region_lit ?_
    refine st_run [1, 1, 1, 1, 1, 1] S M rfl (by kernel_rfl) ?_; clear S a; intro a S
    refine st_y S rfl rfl rfl (y_indexR (e := 65) (sz := 37) S (by kernel_rfl) rfl (M.readAll 1 rfl (by unfold maxLen; omega)) rfl (by first | omega | (simp; done) | (simp; omega))) ?_; clear S a; intro a S
    try simp only [Int.toNat_natCast, Nat.mul_one, Nat.zero_add] at S
    refine st_y S rfl rfl rfl (y_loadAgg S (by kernel_rfl) rfl rfl ((M.readAll 1 rfl (by unfold maxLen; omega)).at_.row (i := i) (fm_get len_ope hio) rfl)) ?_; clear S a; intro a S
    refine st_alloc S M rfl rfl #[.int .i64 0, .int .i64 0, .int .i64 0, .int .i64 0, .int .i64 0, .int .i8 0, .int .i64 0, .int .i64 0, .int .i64 0, .int .i64 0, .int .i64 0, .int .i64 0, .int .i64 0, .int .i8 0, .int .i64 0, .int .i64 0, .int .i64 0, .int .i64 0, .int .i64 0, .int .i64 0, .int .i64 0, .int .i64 0, .int .i8 0, .int .i64 0, .int .u8 0, .int .u8 0, .int .u8 0, .int .u8 0, .int .u8 0, .int .u8 0, .int .u8 0, .int .u8 0, .int .i64 0, .bool false, .int .i64 0, .int .i64 0, .slice none 0 0] (by kernel_rfl) ?_; clear S M a; intro a w17 bX S M hB
    refine st_store (sz := 37) (us := [_, _, _, _, _, _, _, _, _, _, _, _, _, _, _, _, _, _, _, _, _, _, _, _, _, _, _, _, _, _, _, _, _, _, _, _, _]) S M 0 rfl (by kernel_rfl) rfl rfl rfl rfl rfl rfl (by first | decide | (simp; done) | (simp; omega)) ?_; clear M; intro w18 M
    simp only [putL, List.set_cons_zero, List.set_cons_succ, Nat.reduceAdd] at M
    refine nxC ?_
    refine wp_block ?_
    refine nxD ?_
    refine st_run [1, 8, 1, 1] S M rfl (by kernel_rfl) ?_; clear S a; intro a S
    refine st_fi (t := 48) S rfl ?_ ?_
    · clear S; intro h48 S
      refine st_go [0, 0, 0, 1, 1, 0, 0, 0, 0, 0, 1, 1, 0, 0, 0, 0, 0, 0, 1, 1] S rfl (by kernel_rfl) ?_; clear S a; intro a S
      replace S := S.sub [(0, _), (1, _), (2, _), (3, _), (4, _), (5, _), (6, _), (7, _), (8, _), (19, _), (9, _), (10, _), (35, _), (11, _), (44, _)] rfl
      refine nxC ?_
      refine st_condF S rfl ?_
      refine nxD ?_
      refine st_run [1, 8, 1, 1] S M rfl (by kernel_rfl) ?_; clear S a; intro a S
      refine st_fi (t := 76) S rfl ?_ ?_
      · clear S; intro h76 S
        refine st_go [0, 0, 0, 1, 1, 0, 0, 0, 0, 0, 1, 1] S rfl (by kernel_rfl) ?_; clear S a; intro a S
        replace S := S.sub [(0, _), (1, _), (2, _), (3, _), (4, _), (5, _), (6, _), (7, _), (8, _), (19, _), (9, _), (10, _), (35, _), (11, _), (44, _), (72, _)] rfl
        refine nxC ?_
        refine st_condF S rfl ?_
        refine wp_skip ?_
        refine block_normal ?_
        refine then_normal ?_
        first
          | exact ⟨_, E2, .inr ⟨i, o, _, hio, Nm.eqb_iff.1 hnm, rfl, rfl, .inl ⟨by omega, by omega, by omega, by omega, rfl⟩⟩, hEd, S.sub _ rfl, (((M.drop 0).drop 2).drop 2).drop 2⟩
          | exact ⟨_, E2, .inr ⟨i, o, _, hio, Nm.eqb_iff.1 hnm, rfl, rfl, .inr ⟨by omega, by omega, by omega, rfl⟩⟩, hEe, S.sub _ rfl, (((M.drop 0).drop 2).drop 2).drop 2⟩
          | (have hNo : s.NoHear m := fun o9 h9 e1 e2 e3 e4 e5 => by
               have ho9 := hio
               rw [h9, show i = 0 by rw [h9] at hil; simpa using hil] at ho9
               obtain rfl := Option.some.inj ho9
               omega
             obtain ⟨lo, hi, M2⟩ := nilTol ((((M.drop 0).drop 5).drop 5).drop 5)
             obtain ⟨E1, hE1, M3⟩ := Dsk.close (b := bB) (D := ⟨s, Tol.none, of⟩) rl ro ⟨none, 0, lo, hi⟩ ⟨none, 0, lo, hi⟩ ⟨none, 0, lo, hi⟩ ⟨none, 0, lo, hi⟩ ⟨none, 0, lo, hi⟩ (M2.perm (List.perm_append_comm_assoc (tolE Tol.none _ _ _ _ _) [_, _, _] _))
             exact ⟨_, E1, .inl ⟨rfl, rfl, hNo⟩, hE1, S.sub _ rfl, M3⟩)
          | (have hNo : s.NoHear m := fun o9 h9 e1 e2 e3 e4 e5 => by
               rcases hF with ⟨k, q, h1, -⟩ | ⟨-, h2⟩
               · omega
               · have this : o9.nm.eqb m.name = false := h2 o9 (by rw [h9]; simp)
                 rw [Nm.eqb_iff.2 e1] at this; exact absurd this (by decide)
             obtain ⟨lo, hi, M2⟩ := nilTol (((M.drop 5).drop 5).drop 5)
             obtain ⟨E1, hE1, M3⟩ := Dsk.close (b := bB) (D := ⟨s, Tol.none, of⟩) rl ro ⟨none, 0, lo, hi⟩ ⟨none, 0, lo, hi⟩ ⟨none, 0, lo, hi⟩ ⟨none, 0, lo, hi⟩ ⟨none, 0, lo, hi⟩ (M2.perm (List.perm_append_comm_assoc (tolE Tol.none _ _ _ _ _) [_, _, _] _))
             exact ⟨_, E1, .inl ⟨rfl, rfl, hNo⟩, hE1, S.sub _ rfl, M3⟩)
      clear S; intro h76 S
      refine st_run [6, 1, 1, 1, 1] S M rfl (by kernel_rfl) ?_; clear S a; intro a S
      refine st_fi (t := 81) S rfl ?_ ?_
      · clear S; intro h81 S
        refine st_go [0, 0, 0, 0, 0, 1, 1] S rfl (by kernel_rfl) ?_; clear S a; intro a S
        replace S := S.sub [(0, _), (1, _), (2, _), (3, _), (4, _), (5, _), (6, _), (7, _), (8, _), (19, _), (9, _), (10, _), (35, _), (11, _), (44, _), (72, _)] rfl
        refine nxC ?_
        refine st_condF S rfl ?_
        refine wp_skip ?_
        refine block_normal ?_
        refine then_normal ?_
        first
          | exact ⟨_, E2, .inr ⟨i, o, _, hio, Nm.eqb_iff.1 hnm, rfl, rfl, .inl ⟨by omega, by omega, by omega, by omega, rfl⟩⟩, hEd, S.sub _ rfl, (((M.drop 0).drop 2).drop 2).drop 2⟩
          | exact ⟨_, E2, .inr ⟨i, o, _, hio, Nm.eqb_iff.1 hnm, rfl, rfl, .inr ⟨by omega, by omega, by omega, rfl⟩⟩, hEe, S.sub _ rfl, (((M.drop 0).drop 2).drop 2).drop 2⟩
          | (have hNo : s.NoHear m := fun o9 h9 e1 e2 e3 e4 e5 => by
               have ho9 := hio
               rw [h9, show i = 0 by rw [h9] at hil; simpa using hil] at ho9
               obtain rfl := Option.some.inj ho9
               omega
             obtain ⟨lo, hi, M2⟩ := nilTol ((((M.drop 0).drop 5).drop 5).drop 5)
             obtain ⟨E1, hE1, M3⟩ := Dsk.close (b := bB) (D := ⟨s, Tol.none, of⟩) rl ro ⟨none, 0, lo, hi⟩ ⟨none, 0, lo, hi⟩ ⟨none, 0, lo, hi⟩ ⟨none, 0, lo, hi⟩ ⟨none, 0, lo, hi⟩ (M2.perm (List.perm_append_comm_assoc (tolE Tol.none _ _ _ _ _) [_, _, _] _))
             exact ⟨_, E1, .inl ⟨rfl, rfl, hNo⟩, hE1, S.sub _ rfl, M3⟩)
          | (have hNo : s.NoHear m := fun o9 h9 e1 e2 e3 e4 e5 => by
               rcases hF with ⟨k, q, h1, -⟩ | ⟨-, h2⟩
               · omega
               · have this : o9.nm.eqb m.name = false := h2 o9 (by rw [h9]; simp)
                 rw [Nm.eqb_iff.2 e1] at this; exact absurd this (by decide)
             obtain ⟨lo, hi, M2⟩ := nilTol (((M.drop 5).drop 5).drop 5)
             obtain ⟨E1, hE1, M3⟩ := Dsk.close (b := bB) (D := ⟨s, Tol.none, of⟩) rl ro ⟨none, 0, lo, hi⟩ ⟨none, 0, lo, hi⟩ ⟨none, 0, lo, hi⟩ ⟨none, 0, lo, hi⟩ ⟨none, 0, lo, hi⟩ (M2.perm (List.perm_append_comm_assoc (tolE Tol.none _ _ _ _ _) [_, _, _] _))
             exact ⟨_, E1, .inl ⟨rfl, rfl, hNo⟩, hE1, S.sub _ rfl, M3⟩)
      clear S; intro h81 S
      refine st_run [2, 8, 13, 1, 1, 1, 1] S M rfl (by kernel_rfl) ?_; clear S a; intro a S
      replace S := S.sub [(0, _), (1, _), (2, _), (3, _), (4, _), (5, _), (6, _), (7, _), (8, _), (19, _), (9, _), (10, _), (35, _), (11, _), (44, _), (72, _)] rfl
      refine nxC ?_
      refine st_fi (t := 72) S rfl ?_ ?_
      · clear S; intro h72 S
        refine st_condF S rfl ?_
        refine wp_skip ?_
        refine block_normal ?_
        refine then_normal ?_
        first
          | exact ⟨_, E2, .inr ⟨i, o, _, hio, Nm.eqb_iff.1 hnm, rfl, rfl, .inl ⟨by omega, by omega, by omega, by omega, rfl⟩⟩, hEd, S.sub _ rfl, (((M.drop 0).drop 2).drop 2).drop 2⟩
          | exact ⟨_, E2, .inr ⟨i, o, _, hio, Nm.eqb_iff.1 hnm, rfl, rfl, .inr ⟨by omega, by omega, by omega, rfl⟩⟩, hEe, S.sub _ rfl, (((M.drop 0).drop 2).drop 2).drop 2⟩
          | (have hNo : s.NoHear m := fun o9 h9 e1 e2 e3 e4 e5 => by
               have ho9 := hio
               rw [h9, show i = 0 by rw [h9] at hil; simpa using hil] at ho9
               obtain rfl := Option.some.inj ho9
               omega
             obtain ⟨lo, hi, M2⟩ := nilTol ((((M.drop 0).drop 5).drop 5).drop 5)
             obtain ⟨E1, hE1, M3⟩ := Dsk.close (b := bB) (D := ⟨s, Tol.none, of⟩) rl ro ⟨none, 0, lo, hi⟩ ⟨none, 0, lo, hi⟩ ⟨none, 0, lo, hi⟩ ⟨none, 0, lo, hi⟩ ⟨none, 0, lo, hi⟩ (M2.perm (List.perm_append_comm_assoc (tolE Tol.none _ _ _ _ _) [_, _, _] _))
             exact ⟨_, E1, .inl ⟨rfl, rfl, hNo⟩, hE1, S.sub _ rfl, M3⟩)
          | (have hNo : s.NoHear m := fun o9 h9 e1 e2 e3 e4 e5 => by
               rcases hF with ⟨k, q, h1, -⟩ | ⟨-, h2⟩
               · omega
               · have this : o9.nm.eqb m.name = false := h2 o9 (by rw [h9]; simp)
                 rw [Nm.eqb_iff.2 e1] at this; exact absurd this (by decide)
             obtain ⟨lo, hi, M2⟩ := nilTol (((M.drop 5).drop 5).drop 5)
             obtain ⟨E1, hE1, M3⟩ := Dsk.close (b := bB) (D := ⟨s, Tol.none, of⟩) rl ro ⟨none, 0, lo, hi⟩ ⟨none, 0, lo, hi⟩ ⟨none, 0, lo, hi⟩ ⟨none, 0, lo, hi⟩ ⟨none, 0, lo, hi⟩ (M2.perm (List.perm_append_comm_assoc (tolE Tol.none _ _ _ _ _) [_, _, _] _))
             exact ⟨_, E1, .inl ⟨rfl, rfl, hNo⟩, hE1, S.sub _ rfl, M3⟩)
      clear S; intro h72 S
      refine st_condT S rfl ?_
      have hty : (⟨s, Tol.none, of⟩ : Dsk).tiny := ⟨by show s.l.length ≤ 500; omega, hov, Nat.zero_le _, Nat.zero_le _, Nat.zero_le _, Nat.zero_le _, Nat.zero_le _⟩
      replace M := M.front 3 rfl
      simp only [List.eraseIdx_cons_succ, List.eraseIdx_cons_zero] at M
      replace M := M.front 3 rfl
      simp only [List.eraseIdx_cons_succ, List.eraseIdx_cons_zero] at M
      replace M := M.front 3 rfl
      simp only [List.eraseIdx_cons_succ, List.eraseIdx_cons_zero] at M
      obtain ⟨lo, hi, M2⟩ := nilTol M
      obtain ⟨E1, hE1, M3⟩ := Dsk.close (b := bB) (D := ⟨s, Tol.none, of⟩) rl ro ⟨none, 0, lo, hi⟩ ⟨none, 0, lo, hi⟩ ⟨none, 0, lo, hi⟩ ⟨none, 0, lo, hi⟩ ⟨none, 0, lo, hi⟩ (M2.perm (List.perm_append_comm_assoc (tolE Tol.none _ _ _ _ _) [_, _, _] _))
      clear M; have M := M3; clear M2 M3
      refine wp_regionKC (C := fun W => Blk W bC0 (msgW m (.slice wa x.length wc)).toArray 45) [2, 7] #[false, false, false, false, false, false, false, false] rfl M (by kernel_rfl) ?_; clear M; intro w29 M; have hC := M.blk 4 rfl
      refine kc_readC (listed' := #[true, false, false, false, false, false, false, false]) 0 S rfl rfl rfl rfl (by kernel_rfl) rfl (fun _ d _ _ _ h => by cases d <;> exact h) hC (fun w _ => y_move S rfl) ?_; clear S a; intro a S
      refine kc_readC (listed' := #[true, true, false, false, false, false, false, false]) 1 S rfl rfl rfl rfl (by kernel_rfl) rfl (fun _ d _ _ _ h => by cases d <;> exact h) hC (fun w _ => y_move S rfl) ?_; clear S a; intro a S
      refine kc_readC (listed' := #[true, true, false, true, false, false, false, false]) 3 S rfl rfl rfl rfl (by kernel_rfl) rfl (fun _ d _ _ _ h => by cases d <;> exact h) hC (fun w _ => y_fieldAddr (k := 19) S (by kernel_rfl) rfl) ?_; clear S a; intro a S
      refine kc_readC (listed' := #[true, true, false, true, true, false, false, false]) 4 S rfl rfl rfl rfl (by kernel_rfl) rfl (fun _ d _ _ _ h => by cases d <;> exact h) hC (fun w hC => y_load S (by kernel_rfl) rfl (hC.cells 19)) ?_; clear S a; intro a S
      refine kc_readC (listed' := #[true, true, false, true, true, true, false, false]) 5 S rfl rfl rfl rfl (by kernel_rfl) rfl (fun _ d _ _ _ h => by cases d <;> exact h) hC (fun w _ => y_fieldAddr (k := 19) S (by kernel_rfl) rfl) ?_; clear S a; intro a S
      refine kc_readC (listed' := #[true, true, false, true, true, true, true, false]) 6 S rfl rfl rfl rfl (by kernel_rfl) rfl (fun _ d _ _ _ h => by cases d <;> exact h) hC (fun w hC => y_load S (by kernel_rfl) rfl (hC.cells 19)) ?_; clear S a; intro a S
      refine kc_one (listed' := #[true, true, true, true, true, true, true, false]) 2 rfl (by kernel_rfl) rfl ?_
      refine st_call (xs := [(Operand.tmp 88), (Operand.tmp 89), (Operand.const (Value.int IntKind.i8 3))]) S (enters_of Try.func24 (by decide) rfl) rfl rfl rfl (ending_any (A := _ :: _ :: _ :: _ :: _ :: _ :: A) i o 3 hE1 M hty.mid hio) ?_
      rintro _ w30 ⟨b3, b4, b5, b7, rfl, E5, hE5, M1⟩; refine ⟨_, rfl, ?_⟩; clear S M a; intro a S; have M := M1; clear M1
      replace hC := M.blk 8 rfl
      refine wpList_nil ?_; refine then_normal ?_; refine ⟨fun h => absurd h (by decide), hC, ?_⟩
      refine kc_one (listed' := #[true, true, true, true, true, true, true, true]) 7 rfl (by kernel_rfl) rfl ?_
      refine st_callB (xs := [(Operand.tmp 92), (Operand.tmp 94), (Operand.const (Value.bool true))]) (fi := []) (ca := [.pointer (some ⟨b3, 0, none⟩), .pointer (some ⟨b7, 0, none⟩), .pointer (some ⟨b4, 0, none⟩), .pointer (some ⟨b5, 0, none⟩)]) S (enters_of Try.func48 (by decide) rfl) rfl rfl (rfl) rfl (ending1_any (A := _ :: _ :: _ :: _ :: _ :: _ :: A) i o 3 m.e m.e true hE5 M hty.mid hil) ?_
      rintro _ w31 ⟨rfl, E2, hEe, M1⟩; refine ⟨_, rfl, ?_⟩; clear S M a; intro a S; have M := M1; clear M1
      replace hC := M.blk 4 rfl
      refine wpList_nil ?_; refine then_normal ?_; refine ⟨fun h => absurd h (by decide), hC, ?_⟩
      refine kc_end (by kernel_rfl) ?_
      refine block_normal ?_
      refine then_normal ?_
      first
        | exact ⟨_, E2, .inr ⟨i, o, _, hio, Nm.eqb_iff.1 hnm, rfl, rfl, .inl ⟨by omega, by omega, by omega, by omega, rfl⟩⟩, hEd, S.sub _ rfl, (((M.drop 0).drop 2).drop 2).drop 2⟩
        | exact ⟨_, E2, .inr ⟨i, o, _, hio, Nm.eqb_iff.1 hnm, rfl, rfl, .inr ⟨by omega, by omega, by omega, rfl⟩⟩, hEe, S.sub _ rfl, (((M.drop 0).drop 2).drop 2).drop 2⟩
        | (have hNo : s.NoHear m := fun o9 h9 e1 e2 e3 e4 e5 => by
             have ho9 := hio
             rw [h9, show i = 0 by rw [h9] at hil; simpa using hil] at ho9
             obtain rfl := Option.some.inj ho9
             omega
           obtain ⟨lo, hi, M2⟩ := nilTol ((((M.drop 0).drop 5).drop 5).drop 5)
           obtain ⟨E1, hE1, M3⟩ := Dsk.close (b := bB) (D := ⟨s, Tol.none, of⟩) rl ro ⟨none, 0, lo, hi⟩ ⟨none, 0, lo, hi⟩ ⟨none, 0, lo, hi⟩ ⟨none, 0, lo, hi⟩ ⟨none, 0, lo, hi⟩ (M2.perm (List.perm_append_comm_assoc (tolE Tol.none _ _ _ _ _) [_, _, _] _))
           exact ⟨_, E1, .inl ⟨rfl, rfl, hNo⟩, hE1, S.sub _ rfl, M3⟩)
        | (have hNo : s.NoHear m := fun o9 h9 e1 e2 e3 e4 e5 => by
             rcases hF with ⟨k, q, h1, -⟩ | ⟨-, h2⟩
             · omega
             · have this : o9.nm.eqb m.name = false := h2 o9 (by rw [h9]; simp)
               rw [Nm.eqb_iff.2 e1] at this; exact absurd this (by decide)
           obtain ⟨lo, hi, M2⟩ := nilTol (((M.drop 5).drop 5).drop 5)
           obtain ⟨E1, hE1, M3⟩ := Dsk.close (b := bB) (D := ⟨s, Tol.none, of⟩) rl ro ⟨none, 0, lo, hi⟩ ⟨none, 0, lo, hi⟩ ⟨none, 0, lo, hi⟩ ⟨none, 0, lo, hi⟩ ⟨none, 0, lo, hi⟩ (M2.perm (List.perm_append_comm_assoc (tolE Tol.none _ _ _ _ _) [_, _, _] _))
           exact ⟨_, E1, .inl ⟨rfl, rfl, hNo⟩, hE1, S.sub _ rfl, M3⟩)
    clear S; intro h48 S
    refine st_run [6, 1, 1, 1, 1] S M rfl (by kernel_rfl) ?_; clear S a; intro a S
    refine st_fi (t := 53) S rfl ?_ ?_
    · clear S; intro h53 S
      refine st_go [0, 0, 0, 0, 0, 1, 1, 0, 0, 0, 0, 0, 0, 1, 1] S rfl (by kernel_rfl) ?_; clear S a; intro a S
      replace S := S.sub [(0, _), (1, _), (2, _), (3, _), (4, _), (5, _), (6, _), (7, _), (8, _), (19, _), (9, _), (10, _), (35, _), (11, _), (44, _)] rfl
      refine nxC ?_
      refine st_condF S rfl ?_
      refine nxD ?_
      refine st_run [1, 8, 1, 1] S M rfl (by kernel_rfl) ?_; clear S a; intro a S
      refine st_fi (t := 76) S rfl ?_ ?_
      · clear S; intro h76 S
        refine st_go [0, 0, 0, 1, 1, 0, 0, 0, 0, 0, 1, 1] S rfl (by kernel_rfl) ?_; clear S a; intro a S
        replace S := S.sub [(0, _), (1, _), (2, _), (3, _), (4, _), (5, _), (6, _), (7, _), (8, _), (19, _), (9, _), (10, _), (35, _), (11, _), (44, _), (72, _)] rfl
        refine nxC ?_
        refine st_condF S rfl ?_
        refine wp_skip ?_
        refine block_normal ?_
        refine then_normal ?_
        first
          | exact ⟨_, E2, .inr ⟨i, o, _, hio, Nm.eqb_iff.1 hnm, rfl, rfl, .inl ⟨by omega, by omega, by omega, by omega, rfl⟩⟩, hEd, S.sub _ rfl, (((M.drop 0).drop 2).drop 2).drop 2⟩
          | exact ⟨_, E2, .inr ⟨i, o, _, hio, Nm.eqb_iff.1 hnm, rfl, rfl, .inr ⟨by omega, by omega, by omega, rfl⟩⟩, hEe, S.sub _ rfl, (((M.drop 0).drop 2).drop 2).drop 2⟩
          | (have hNo : s.NoHear m := fun o9 h9 e1 e2 e3 e4 e5 => by
               have ho9 := hio
               rw [h9, show i = 0 by rw [h9] at hil; simpa using hil] at ho9
               obtain rfl := Option.some.inj ho9
               omega
             obtain ⟨lo, hi, M2⟩ := nilTol ((((M.drop 0).drop 5).drop 5).drop 5)
             obtain ⟨E1, hE1, M3⟩ := Dsk.close (b := bB) (D := ⟨s, Tol.none, of⟩) rl ro ⟨none, 0, lo, hi⟩ ⟨none, 0, lo, hi⟩ ⟨none, 0, lo, hi⟩ ⟨none, 0, lo, hi⟩ ⟨none, 0, lo, hi⟩ (M2.perm (List.perm_append_comm_assoc (tolE Tol.none _ _ _ _ _) [_, _, _] _))
             exact ⟨_, E1, .inl ⟨rfl, rfl, hNo⟩, hE1, S.sub _ rfl, M3⟩)
          | (have hNo : s.NoHear m := fun o9 h9 e1 e2 e3 e4 e5 => by
               rcases hF with ⟨k, q, h1, -⟩ | ⟨-, h2⟩
               · omega
               · have this : o9.nm.eqb m.name = false := h2 o9 (by rw [h9]; simp)
                 rw [Nm.eqb_iff.2 e1] at this; exact absurd this (by decide)
             obtain ⟨lo, hi, M2⟩ := nilTol (((M.drop 5).drop 5).drop 5)
             obtain ⟨E1, hE1, M3⟩ := Dsk.close (b := bB) (D := ⟨s, Tol.none, of⟩) rl ro ⟨none, 0, lo, hi⟩ ⟨none, 0, lo, hi⟩ ⟨none, 0, lo, hi⟩ ⟨none, 0, lo, hi⟩ ⟨none, 0, lo, hi⟩ (M2.perm (List.perm_append_comm_assoc (tolE Tol.none _ _ _ _ _) [_, _, _] _))
             exact ⟨_, E1, .inl ⟨rfl, rfl, hNo⟩, hE1, S.sub _ rfl, M3⟩)
      clear S; intro h76 S
      refine st_run [6, 1, 1, 1, 1] S M rfl (by kernel_rfl) ?_; clear S a; intro a S
      refine st_fi (t := 81) S rfl ?_ ?_
      · clear S; intro h81 S
        refine st_go [0, 0, 0, 0, 0, 1, 1] S rfl (by kernel_rfl) ?_; clear S a; intro a S
        replace S := S.sub [(0, _), (1, _), (2, _), (3, _), (4, _), (5, _), (6, _), (7, _), (8, _), (19, _), (9, _), (10, _), (35, _), (11, _), (44, _), (72, _)] rfl
        refine nxC ?_
        refine st_condF S rfl ?_
        refine wp_skip ?_
        refine block_normal ?_
        refine then_normal ?_
        first
          | exact ⟨_, E2, .inr ⟨i, o, _, hio, Nm.eqb_iff.1 hnm, rfl, rfl, .inl ⟨by omega, by omega, by omega, by omega, rfl⟩⟩, hEd, S.sub _ rfl, (((M.drop 0).drop 2).drop 2).drop 2⟩
          | exact ⟨_, E2, .inr ⟨i, o, _, hio, Nm.eqb_iff.1 hnm, rfl, rfl, .inr ⟨by omega, by omega, by omega, rfl⟩⟩, hEe, S.sub _ rfl, (((M.drop 0).drop 2).drop 2).drop 2⟩
          | (have hNo : s.NoHear m := fun o9 h9 e1 e2 e3 e4 e5 => by
               have ho9 := hio
               rw [h9, show i = 0 by rw [h9] at hil; simpa using hil] at ho9
               obtain rfl := Option.some.inj ho9
               omega
             obtain ⟨lo, hi, M2⟩ := nilTol ((((M.drop 0).drop 5).drop 5).drop 5)
             obtain ⟨E1, hE1, M3⟩ := Dsk.close (b := bB) (D := ⟨s, Tol.none, of⟩) rl ro ⟨none, 0, lo, hi⟩ ⟨none, 0, lo, hi⟩ ⟨none, 0, lo, hi⟩ ⟨none, 0, lo, hi⟩ ⟨none, 0, lo, hi⟩ (M2.perm (List.perm_append_comm_assoc (tolE Tol.none _ _ _ _ _) [_, _, _] _))
             exact ⟨_, E1, .inl ⟨rfl, rfl, hNo⟩, hE1, S.sub _ rfl, M3⟩)
          | (have hNo : s.NoHear m := fun o9 h9 e1 e2 e3 e4 e5 => by
               rcases hF with ⟨k, q, h1, -⟩ | ⟨-, h2⟩
               · omega
               · have this : o9.nm.eqb m.name = false := h2 o9 (by rw [h9]; simp)
                 rw [Nm.eqb_iff.2 e1] at this; exact absurd this (by decide)
             obtain ⟨lo, hi, M2⟩ := nilTol (((M.drop 5).drop 5).drop 5)
             obtain ⟨E1, hE1, M3⟩ := Dsk.close (b := bB) (D := ⟨s, Tol.none, of⟩) rl ro ⟨none, 0, lo, hi⟩ ⟨none, 0, lo, hi⟩ ⟨none, 0, lo, hi⟩ ⟨none, 0, lo, hi⟩ ⟨none, 0, lo, hi⟩ (M2.perm (List.perm_append_comm_assoc (tolE Tol.none _ _ _ _ _) [_, _, _] _))
             exact ⟨_, E1, .inl ⟨rfl, rfl, hNo⟩, hE1, S.sub _ rfl, M3⟩)
      clear S; intro h81 S
      refine st_run [2, 8, 13, 1, 1, 1, 1] S M rfl (by kernel_rfl) ?_; clear S a; intro a S
      replace S := S.sub [(0, _), (1, _), (2, _), (3, _), (4, _), (5, _), (6, _), (7, _), (8, _), (19, _), (9, _), (10, _), (35, _), (11, _), (44, _), (72, _)] rfl
      refine nxC ?_
      refine st_fi (t := 72) S rfl ?_ ?_
      · clear S; intro h72 S
        refine st_condF S rfl ?_
        refine wp_skip ?_
        refine block_normal ?_
        refine then_normal ?_
        first
          | exact ⟨_, E2, .inr ⟨i, o, _, hio, Nm.eqb_iff.1 hnm, rfl, rfl, .inl ⟨by omega, by omega, by omega, by omega, rfl⟩⟩, hEd, S.sub _ rfl, (((M.drop 0).drop 2).drop 2).drop 2⟩
          | exact ⟨_, E2, .inr ⟨i, o, _, hio, Nm.eqb_iff.1 hnm, rfl, rfl, .inr ⟨by omega, by omega, by omega, rfl⟩⟩, hEe, S.sub _ rfl, (((M.drop 0).drop 2).drop 2).drop 2⟩
          | (have hNo : s.NoHear m := fun o9 h9 e1 e2 e3 e4 e5 => by
               have ho9 := hio
               rw [h9, show i = 0 by rw [h9] at hil; simpa using hil] at ho9
               obtain rfl := Option.some.inj ho9
               omega
             obtain ⟨lo, hi, M2⟩ := nilTol ((((M.drop 0).drop 5).drop 5).drop 5)
             obtain ⟨E1, hE1, M3⟩ := Dsk.close (b := bB) (D := ⟨s, Tol.none, of⟩) rl ro ⟨none, 0, lo, hi⟩ ⟨none, 0, lo, hi⟩ ⟨none, 0, lo, hi⟩ ⟨none, 0, lo, hi⟩ ⟨none, 0, lo, hi⟩ (M2.perm (List.perm_append_comm_assoc (tolE Tol.none _ _ _ _ _) [_, _, _] _))
             exact ⟨_, E1, .inl ⟨rfl, rfl, hNo⟩, hE1, S.sub _ rfl, M3⟩)
          | (have hNo : s.NoHear m := fun o9 h9 e1 e2 e3 e4 e5 => by
               rcases hF with ⟨k, q, h1, -⟩ | ⟨-, h2⟩
               · omega
               · have this : o9.nm.eqb m.name = false := h2 o9 (by rw [h9]; simp)
                 rw [Nm.eqb_iff.2 e1] at this; exact absurd this (by decide)
             obtain ⟨lo, hi, M2⟩ := nilTol (((M.drop 5).drop 5).drop 5)
             obtain ⟨E1, hE1, M3⟩ := Dsk.close (b := bB) (D := ⟨s, Tol.none, of⟩) rl ro ⟨none, 0, lo, hi⟩ ⟨none, 0, lo, hi⟩ ⟨none, 0, lo, hi⟩ ⟨none, 0, lo, hi⟩ ⟨none, 0, lo, hi⟩ (M2.perm (List.perm_append_comm_assoc (tolE Tol.none _ _ _ _ _) [_, _, _] _))
             exact ⟨_, E1, .inl ⟨rfl, rfl, hNo⟩, hE1, S.sub _ rfl, M3⟩)
      clear S; intro h72 S
      refine st_condT S rfl ?_
      have hty : (⟨s, Tol.none, of⟩ : Dsk).tiny := ⟨by show s.l.length ≤ 500; omega, hov, Nat.zero_le _, Nat.zero_le _, Nat.zero_le _, Nat.zero_le _, Nat.zero_le _⟩
      replace M := M.front 3 rfl
      simp only [List.eraseIdx_cons_succ, List.eraseIdx_cons_zero] at M
      replace M := M.front 3 rfl
      simp only [List.eraseIdx_cons_succ, List.eraseIdx_cons_zero] at M
      replace M := M.front 3 rfl
      simp only [List.eraseIdx_cons_succ, List.eraseIdx_cons_zero] at M
      obtain ⟨lo, hi, M2⟩ := nilTol M
      obtain ⟨E1, hE1, M3⟩ := Dsk.close (b := bB) (D := ⟨s, Tol.none, of⟩) rl ro ⟨none, 0, lo, hi⟩ ⟨none, 0, lo, hi⟩ ⟨none, 0, lo, hi⟩ ⟨none, 0, lo, hi⟩ ⟨none, 0, lo, hi⟩ (M2.perm (List.perm_append_comm_assoc (tolE Tol.none _ _ _ _ _) [_, _, _] _))
      clear M; have M := M3; clear M2 M3
      refine wp_regionKC (C := fun W => Blk W bC0 (msgW m (.slice wa x.length wc)).toArray 45) [2, 7] #[false, false, false, false, false, false, false, false] rfl M (by kernel_rfl) ?_; clear M; intro w26 M; have hC := M.blk 4 rfl
      refine kc_readC (listed' := #[true, false, false, false, false, false, false, false]) 0 S rfl rfl rfl rfl (by kernel_rfl) rfl (fun _ d _ _ _ h => by cases d <;> exact h) hC (fun w _ => y_move S rfl) ?_; clear S a; intro a S
      refine kc_readC (listed' := #[true, true, false, false, false, false, false, false]) 1 S rfl rfl rfl rfl (by kernel_rfl) rfl (fun _ d _ _ _ h => by cases d <;> exact h) hC (fun w _ => y_move S rfl) ?_; clear S a; intro a S
      refine kc_readC (listed' := #[true, true, false, true, false, false, false, false]) 3 S rfl rfl rfl rfl (by kernel_rfl) rfl (fun _ d _ _ _ h => by cases d <;> exact h) hC (fun w _ => y_fieldAddr (k := 19) S (by kernel_rfl) rfl) ?_; clear S a; intro a S
      refine kc_readC (listed' := #[true, true, false, true, true, false, false, false]) 4 S rfl rfl rfl rfl (by kernel_rfl) rfl (fun _ d _ _ _ h => by cases d <;> exact h) hC (fun w hC => y_load S (by kernel_rfl) rfl (hC.cells 19)) ?_; clear S a; intro a S
      refine kc_readC (listed' := #[true, true, false, true, true, true, false, false]) 5 S rfl rfl rfl rfl (by kernel_rfl) rfl (fun _ d _ _ _ h => by cases d <;> exact h) hC (fun w _ => y_fieldAddr (k := 19) S (by kernel_rfl) rfl) ?_; clear S a; intro a S
      refine kc_readC (listed' := #[true, true, false, true, true, true, true, false]) 6 S rfl rfl rfl rfl (by kernel_rfl) rfl (fun _ d _ _ _ h => by cases d <;> exact h) hC (fun w hC => y_load S (by kernel_rfl) rfl (hC.cells 19)) ?_; clear S a; intro a S
      refine kc_one (listed' := #[true, true, true, true, true, true, true, false]) 2 rfl (by kernel_rfl) rfl ?_
      refine st_call (xs := [(Operand.tmp 88), (Operand.tmp 89), (Operand.const (Value.int IntKind.i8 3))]) S (enters_of Try.func24 (by decide) rfl) rfl rfl rfl (ending_any (A := _ :: _ :: _ :: _ :: _ :: _ :: A) i o 3 hE1 M hty.mid hio) ?_
      rintro _ w27 ⟨b3, b4, b5, b7, rfl, E5, hE5, M1⟩; refine ⟨_, rfl, ?_⟩; clear S M a; intro a S; have M := M1; clear M1
      replace hC := M.blk 8 rfl
      refine wpList_nil ?_; refine then_normal ?_; refine ⟨fun h => absurd h (by decide), hC, ?_⟩
      refine kc_one (listed' := #[true, true, true, true, true, true, true, true]) 7 rfl (by kernel_rfl) rfl ?_
      refine st_callB (xs := [(Operand.tmp 92), (Operand.tmp 94), (Operand.const (Value.bool true))]) (fi := []) (ca := [.pointer (some ⟨b3, 0, none⟩), .pointer (some ⟨b7, 0, none⟩), .pointer (some ⟨b4, 0, none⟩), .pointer (some ⟨b5, 0, none⟩)]) S (enters_of Try.func48 (by decide) rfl) rfl rfl (rfl) rfl (ending1_any (A := _ :: _ :: _ :: _ :: _ :: _ :: A) i o 3 m.e m.e true hE5 M hty.mid hil) ?_
      rintro _ w28 ⟨rfl, E2, hEe, M1⟩; refine ⟨_, rfl, ?_⟩; clear S M a; intro a S; have M := M1; clear M1
      replace hC := M.blk 4 rfl
      refine wpList_nil ?_; refine then_normal ?_; refine ⟨fun h => absurd h (by decide), hC, ?_⟩
      refine kc_end (by kernel_rfl) ?_
      refine block_normal ?_
      refine then_normal ?_
      first
        | exact ⟨_, E2, .inr ⟨i, o, _, hio, Nm.eqb_iff.1 hnm, rfl, rfl, .inl ⟨by omega, by omega, by omega, by omega, rfl⟩⟩, hEd, S.sub _ rfl, (((M.drop 0).drop 2).drop 2).drop 2⟩
        | exact ⟨_, E2, .inr ⟨i, o, _, hio, Nm.eqb_iff.1 hnm, rfl, rfl, .inr ⟨by omega, by omega, by omega, rfl⟩⟩, hEe, S.sub _ rfl, (((M.drop 0).drop 2).drop 2).drop 2⟩
        | (have hNo : s.NoHear m := fun o9 h9 e1 e2 e3 e4 e5 => by
             have ho9 := hio
             rw [h9, show i = 0 by rw [h9] at hil; simpa using hil] at ho9
             obtain rfl := Option.some.inj ho9
             omega
           obtain ⟨lo, hi, M2⟩ := nilTol ((((M.drop 0).drop 5).drop 5).drop 5)
           obtain ⟨E1, hE1, M3⟩ := Dsk.close (b := bB) (D := ⟨s, Tol.none, of⟩) rl ro ⟨none, 0, lo, hi⟩ ⟨none, 0, lo, hi⟩ ⟨none, 0, lo, hi⟩ ⟨none, 0, lo, hi⟩ ⟨none, 0, lo, hi⟩ (M2.perm (List.perm_append_comm_assoc (tolE Tol.none _ _ _ _ _) [_, _, _] _))
           exact ⟨_, E1, .inl ⟨rfl, rfl, hNo⟩, hE1, S.sub _ rfl, M3⟩)
        | (have hNo : s.NoHear m := fun o9 h9 e1 e2 e3 e4 e5 => by
             rcases hF with ⟨k, q, h1, -⟩ | ⟨-, h2⟩
             · omega
             · have this : o9.nm.eqb m.name = false := h2 o9 (by rw [h9]; simp)
               rw [Nm.eqb_iff.2 e1] at this; exact absurd this (by decide)
           obtain ⟨lo, hi, M2⟩ := nilTol (((M.drop 5).drop 5).drop 5)
           obtain ⟨E1, hE1, M3⟩ := Dsk.close (b := bB) (D := ⟨s, Tol.none, of⟩) rl ro ⟨none, 0, lo, hi⟩ ⟨none, 0, lo, hi⟩ ⟨none, 0, lo, hi⟩ ⟨none, 0, lo, hi⟩ ⟨none, 0, lo, hi⟩ (M2.perm (List.perm_append_comm_assoc (tolE Tol.none _ _ _ _ _) [_, _, _] _))
           exact ⟨_, E1, .inl ⟨rfl, rfl, hNo⟩, hE1, S.sub _ rfl, M3⟩)
    clear S; intro h53 S
    refine st_run [2, 8, 13, 1, 1, 1, 1] S M rfl (by kernel_rfl) ?_; clear S a; intro a S
    refine st_fi (t := 60) S rfl ?_ ?_
    · clear S; intro h60 S
      refine st_go [0, 0, 0, 0, 0, 0, 1, 1] S rfl (by kernel_rfl) ?_; clear S a; intro a S
      replace S := S.sub [(0, _), (1, _), (2, _), (3, _), (4, _), (5, _), (6, _), (7, _), (8, _), (19, _), (9, _), (10, _), (35, _), (11, _), (44, _)] rfl
      refine nxC ?_
      refine st_condF S rfl ?_
      refine nxD ?_
      refine st_run [1, 8, 1, 1] S M rfl (by kernel_rfl) ?_; clear S a; intro a S
      refine st_fi (t := 76) S rfl ?_ ?_
      · clear S; intro h76 S
        refine st_go [0, 0, 0, 1, 1, 0, 0, 0, 0, 0, 1, 1] S rfl (by kernel_rfl) ?_; clear S a; intro a S
        replace S := S.sub [(0, _), (1, _), (2, _), (3, _), (4, _), (5, _), (6, _), (7, _), (8, _), (19, _), (9, _), (10, _), (35, _), (11, _), (44, _), (72, _)] rfl
        refine nxC ?_
        refine st_condF S rfl ?_
        refine wp_skip ?_
        refine block_normal ?_
        refine then_normal ?_
        first
          | exact ⟨_, E2, .inr ⟨i, o, _, hio, Nm.eqb_iff.1 hnm, rfl, rfl, .inl ⟨by omega, by omega, by omega, by omega, rfl⟩⟩, hEd, S.sub _ rfl, (((M.drop 0).drop 2).drop 2).drop 2⟩
          | exact ⟨_, E2, .inr ⟨i, o, _, hio, Nm.eqb_iff.1 hnm, rfl, rfl, .inr ⟨by omega, by omega, by omega, rfl⟩⟩, hEe, S.sub _ rfl, (((M.drop 0).drop 2).drop 2).drop 2⟩
          | (have hNo : s.NoHear m := fun o9 h9 e1 e2 e3 e4 e5 => by
               have ho9 := hio
               rw [h9, show i = 0 by rw [h9] at hil; simpa using hil] at ho9
               obtain rfl := Option.some.inj ho9
               omega
             obtain ⟨lo, hi, M2⟩ := nilTol ((((M.drop 0).drop 5).drop 5).drop 5)
             obtain ⟨E1, hE1, M3⟩ := Dsk.close (b := bB) (D := ⟨s, Tol.none, of⟩) rl ro ⟨none, 0, lo, hi⟩ ⟨none, 0, lo, hi⟩ ⟨none, 0, lo, hi⟩ ⟨none, 0, lo, hi⟩ ⟨none, 0, lo, hi⟩ (M2.perm (List.perm_append_comm_assoc (tolE Tol.none _ _ _ _ _) [_, _, _] _))
             exact ⟨_, E1, .inl ⟨rfl, rfl, hNo⟩, hE1, S.sub _ rfl, M3⟩)
          | (have hNo : s.NoHear m := fun o9 h9 e1 e2 e3 e4 e5 => by
               rcases hF with ⟨k, q, h1, -⟩ | ⟨-, h2⟩
               · omega
               · have this : o9.nm.eqb m.name = false := h2 o9 (by rw [h9]; simp)
                 rw [Nm.eqb_iff.2 e1] at this; exact absurd this (by decide)
             obtain ⟨lo, hi, M2⟩ := nilTol (((M.drop 5).drop 5).drop 5)
             obtain ⟨E1, hE1, M3⟩ := Dsk.close (b := bB) (D := ⟨s, Tol.none, of⟩) rl ro ⟨none, 0, lo, hi⟩ ⟨none, 0, lo, hi⟩ ⟨none, 0, lo, hi⟩ ⟨none, 0, lo, hi⟩ ⟨none, 0, lo, hi⟩ (M2.perm (List.perm_append_comm_assoc (tolE Tol.none _ _ _ _ _) [_, _, _] _))
             exact ⟨_, E1, .inl ⟨rfl, rfl, hNo⟩, hE1, S.sub _ rfl, M3⟩)
      clear S; intro h76 S
      refine st_run [6, 1, 1, 1, 1] S M rfl (by kernel_rfl) ?_; clear S a; intro a S
      refine st_fi (t := 81) S rfl ?_ ?_
      · clear S; intro h81 S
        refine st_go [0, 0, 0, 0, 0, 1, 1] S rfl (by kernel_rfl) ?_; clear S a; intro a S
        replace S := S.sub [(0, _), (1, _), (2, _), (3, _), (4, _), (5, _), (6, _), (7, _), (8, _), (19, _), (9, _), (10, _), (35, _), (11, _), (44, _), (72, _)] rfl
        refine nxC ?_
        refine st_condF S rfl ?_
        refine wp_skip ?_
        refine block_normal ?_
        refine then_normal ?_
        first
          | exact ⟨_, E2, .inr ⟨i, o, _, hio, Nm.eqb_iff.1 hnm, rfl, rfl, .inl ⟨by omega, by omega, by omega, by omega, rfl⟩⟩, hEd, S.sub _ rfl, (((M.drop 0).drop 2).drop 2).drop 2⟩
          | exact ⟨_, E2, .inr ⟨i, o, _, hio, Nm.eqb_iff.1 hnm, rfl, rfl, .inr ⟨by omega, by omega, by omega, rfl⟩⟩, hEe, S.sub _ rfl, (((M.drop 0).drop 2).drop 2).drop 2⟩
          | (have hNo : s.NoHear m := fun o9 h9 e1 e2 e3 e4 e5 => by
               have ho9 := hio
               rw [h9, show i = 0 by rw [h9] at hil; simpa using hil] at ho9
               obtain rfl := Option.some.inj ho9
               omega
             obtain ⟨lo, hi, M2⟩ := nilTol ((((M.drop 0).drop 5).drop 5).drop 5)
             obtain ⟨E1, hE1, M3⟩ := Dsk.close (b := bB) (D := ⟨s, Tol.none, of⟩) rl ro ⟨none, 0, lo, hi⟩ ⟨none, 0, lo, hi⟩ ⟨none, 0, lo, hi⟩ ⟨none, 0, lo, hi⟩ ⟨none, 0, lo, hi⟩ (M2.perm (List.perm_append_comm_assoc (tolE Tol.none _ _ _ _ _) [_, _, _] _))
             exact ⟨_, E1, .inl ⟨rfl, rfl, hNo⟩, hE1, S.sub _ rfl, M3⟩)
          | (have hNo : s.NoHear m := fun o9 h9 e1 e2 e3 e4 e5 => by
               rcases hF with ⟨k, q, h1, -⟩ | ⟨-, h2⟩
               · omega
               · have this : o9.nm.eqb m.name = false := h2 o9 (by rw [h9]; simp)
                 rw [Nm.eqb_iff.2 e1] at this; exact absurd this (by decide)
             obtain ⟨lo, hi, M2⟩ := nilTol (((M.drop 5).drop 5).drop 5)
             obtain ⟨E1, hE1, M3⟩ := Dsk.close (b := bB) (D := ⟨s, Tol.none, of⟩) rl ro ⟨none, 0, lo, hi⟩ ⟨none, 0, lo, hi⟩ ⟨none, 0, lo, hi⟩ ⟨none, 0, lo, hi⟩ ⟨none, 0, lo, hi⟩ (M2.perm (List.perm_append_comm_assoc (tolE Tol.none _ _ _ _ _) [_, _, _] _))
             exact ⟨_, E1, .inl ⟨rfl, rfl, hNo⟩, hE1, S.sub _ rfl, M3⟩)
      clear S; intro h81 S
      refine st_run [2, 8, 13, 1, 1, 1, 1] S M rfl (by kernel_rfl) ?_; clear S a; intro a S
      replace S := S.sub [(0, _), (1, _), (2, _), (3, _), (4, _), (5, _), (6, _), (7, _), (8, _), (19, _), (9, _), (10, _), (35, _), (11, _), (44, _), (72, _)] rfl
      refine nxC ?_
      refine st_fi (t := 72) S rfl ?_ ?_
      · clear S; intro h72 S
        refine st_condF S rfl ?_
        refine wp_skip ?_
        refine block_normal ?_
        refine then_normal ?_
        first
          | exact ⟨_, E2, .inr ⟨i, o, _, hio, Nm.eqb_iff.1 hnm, rfl, rfl, .inl ⟨by omega, by omega, by omega, by omega, rfl⟩⟩, hEd, S.sub _ rfl, (((M.drop 0).drop 2).drop 2).drop 2⟩
          | exact ⟨_, E2, .inr ⟨i, o, _, hio, Nm.eqb_iff.1 hnm, rfl, rfl, .inr ⟨by omega, by omega, by omega, rfl⟩⟩, hEe, S.sub _ rfl, (((M.drop 0).drop 2).drop 2).drop 2⟩
          | (have hNo : s.NoHear m := fun o9 h9 e1 e2 e3 e4 e5 => by
               have ho9 := hio
               rw [h9, show i = 0 by rw [h9] at hil; simpa using hil] at ho9
               obtain rfl := Option.some.inj ho9
               omega
             obtain ⟨lo, hi, M2⟩ := nilTol ((((M.drop 0).drop 5).drop 5).drop 5)
             obtain ⟨E1, hE1, M3⟩ := Dsk.close (b := bB) (D := ⟨s, Tol.none, of⟩) rl ro ⟨none, 0, lo, hi⟩ ⟨none, 0, lo, hi⟩ ⟨none, 0, lo, hi⟩ ⟨none, 0, lo, hi⟩ ⟨none, 0, lo, hi⟩ (M2.perm (List.perm_append_comm_assoc (tolE Tol.none _ _ _ _ _) [_, _, _] _))
             exact ⟨_, E1, .inl ⟨rfl, rfl, hNo⟩, hE1, S.sub _ rfl, M3⟩)
          | (have hNo : s.NoHear m := fun o9 h9 e1 e2 e3 e4 e5 => by
               rcases hF with ⟨k, q, h1, -⟩ | ⟨-, h2⟩
               · omega
               · have this : o9.nm.eqb m.name = false := h2 o9 (by rw [h9]; simp)
                 rw [Nm.eqb_iff.2 e1] at this; exact absurd this (by decide)
             obtain ⟨lo, hi, M2⟩ := nilTol (((M.drop 5).drop 5).drop 5)
             obtain ⟨E1, hE1, M3⟩ := Dsk.close (b := bB) (D := ⟨s, Tol.none, of⟩) rl ro ⟨none, 0, lo, hi⟩ ⟨none, 0, lo, hi⟩ ⟨none, 0, lo, hi⟩ ⟨none, 0, lo, hi⟩ ⟨none, 0, lo, hi⟩ (M2.perm (List.perm_append_comm_assoc (tolE Tol.none _ _ _ _ _) [_, _, _] _))
             exact ⟨_, E1, .inl ⟨rfl, rfl, hNo⟩, hE1, S.sub _ rfl, M3⟩)
      clear S; intro h72 S
      refine st_condT S rfl ?_
      have hty : (⟨s, Tol.none, of⟩ : Dsk).tiny := ⟨by show s.l.length ≤ 500; omega, hov, Nat.zero_le _, Nat.zero_le _, Nat.zero_le _, Nat.zero_le _, Nat.zero_le _⟩
      replace M := M.front 3 rfl
      simp only [List.eraseIdx_cons_succ, List.eraseIdx_cons_zero] at M
      replace M := M.front 3 rfl
      simp only [List.eraseIdx_cons_succ, List.eraseIdx_cons_zero] at M
      replace M := M.front 3 rfl
      simp only [List.eraseIdx_cons_succ, List.eraseIdx_cons_zero] at M
      obtain ⟨lo, hi, M2⟩ := nilTol M
      obtain ⟨E1, hE1, M3⟩ := Dsk.close (b := bB) (D := ⟨s, Tol.none, of⟩) rl ro ⟨none, 0, lo, hi⟩ ⟨none, 0, lo, hi⟩ ⟨none, 0, lo, hi⟩ ⟨none, 0, lo, hi⟩ ⟨none, 0, lo, hi⟩ (M2.perm (List.perm_append_comm_assoc (tolE Tol.none _ _ _ _ _) [_, _, _] _))
      clear M; have M := M3; clear M2 M3
      refine wp_regionKC (C := fun W => Blk W bC0 (msgW m (.slice wa x.length wc)).toArray 45) [2, 7] #[false, false, false, false, false, false, false, false] rfl M (by kernel_rfl) ?_; clear M; intro w23 M; have hC := M.blk 4 rfl
      refine kc_readC (listed' := #[true, false, false, false, false, false, false, false]) 0 S rfl rfl rfl rfl (by kernel_rfl) rfl (fun _ d _ _ _ h => by cases d <;> exact h) hC (fun w _ => y_move S rfl) ?_; clear S a; intro a S
      refine kc_readC (listed' := #[true, true, false, false, false, false, false, false]) 1 S rfl rfl rfl rfl (by kernel_rfl) rfl (fun _ d _ _ _ h => by cases d <;> exact h) hC (fun w _ => y_move S rfl) ?_; clear S a; intro a S
      refine kc_readC (listed' := #[true, true, false, true, false, false, false, false]) 3 S rfl rfl rfl rfl (by kernel_rfl) rfl (fun _ d _ _ _ h => by cases d <;> exact h) hC (fun w _ => y_fieldAddr (k := 19) S (by kernel_rfl) rfl) ?_; clear S a; intro a S
      refine kc_readC (listed' := #[true, true, false, true, true, false, false, false]) 4 S rfl rfl rfl rfl (by kernel_rfl) rfl (fun _ d _ _ _ h => by cases d <;> exact h) hC (fun w hC => y_load S (by kernel_rfl) rfl (hC.cells 19)) ?_; clear S a; intro a S
      refine kc_readC (listed' := #[true, true, false, true, true, true, false, false]) 5 S rfl rfl rfl rfl (by kernel_rfl) rfl (fun _ d _ _ _ h => by cases d <;> exact h) hC (fun w _ => y_fieldAddr (k := 19) S (by kernel_rfl) rfl) ?_; clear S a; intro a S
      refine kc_readC (listed' := #[true, true, false, true, true, true, true, false]) 6 S rfl rfl rfl rfl (by kernel_rfl) rfl (fun _ d _ _ _ h => by cases d <;> exact h) hC (fun w hC => y_load S (by kernel_rfl) rfl (hC.cells 19)) ?_; clear S a; intro a S
      refine kc_one (listed' := #[true, true, true, true, true, true, true, false]) 2 rfl (by kernel_rfl) rfl ?_
      refine st_call (xs := [(Operand.tmp 88), (Operand.tmp 89), (Operand.const (Value.int IntKind.i8 3))]) S (enters_of Try.func24 (by decide) rfl) rfl rfl rfl (ending_any (A := _ :: _ :: _ :: _ :: _ :: _ :: A) i o 3 hE1 M hty.mid hio) ?_
      rintro _ w24 ⟨b3, b4, b5, b7, rfl, E5, hE5, M1⟩; refine ⟨_, rfl, ?_⟩; clear S M a; intro a S; have M := M1; clear M1
      replace hC := M.blk 8 rfl
      refine wpList_nil ?_; refine then_normal ?_; refine ⟨fun h => absurd h (by decide), hC, ?_⟩
      refine kc_one (listed' := #[true, true, true, true, true, true, true, true]) 7 rfl (by kernel_rfl) rfl ?_
      refine st_callB (xs := [(Operand.tmp 92), (Operand.tmp 94), (Operand.const (Value.bool true))]) (fi := []) (ca := [.pointer (some ⟨b3, 0, none⟩), .pointer (some ⟨b7, 0, none⟩), .pointer (some ⟨b4, 0, none⟩), .pointer (some ⟨b5, 0, none⟩)]) S (enters_of Try.func48 (by decide) rfl) rfl rfl (rfl) rfl (ending1_any (A := _ :: _ :: _ :: _ :: _ :: _ :: A) i o 3 m.e m.e true hE5 M hty.mid hil) ?_
      rintro _ w25 ⟨rfl, E2, hEe, M1⟩; refine ⟨_, rfl, ?_⟩; clear S M a; intro a S; have M := M1; clear M1
      replace hC := M.blk 4 rfl
      refine wpList_nil ?_; refine then_normal ?_; refine ⟨fun h => absurd h (by decide), hC, ?_⟩
      refine kc_end (by kernel_rfl) ?_
      refine block_normal ?_
      refine then_normal ?_
      first
        | exact ⟨_, E2, .inr ⟨i, o, _, hio, Nm.eqb_iff.1 hnm, rfl, rfl, .inl ⟨by omega, by omega, by omega, by omega, rfl⟩⟩, hEd, S.sub _ rfl, (((M.drop 0).drop 2).drop 2).drop 2⟩
        | exact ⟨_, E2, .inr ⟨i, o, _, hio, Nm.eqb_iff.1 hnm, rfl, rfl, .inr ⟨by omega, by omega, by omega, rfl⟩⟩, hEe, S.sub _ rfl, (((M.drop 0).drop 2).drop 2).drop 2⟩
        | (have hNo : s.NoHear m := fun o9 h9 e1 e2 e3 e4 e5 => by
             have ho9 := hio
             rw [h9, show i = 0 by rw [h9] at hil; simpa using hil] at ho9
             obtain rfl := Option.some.inj ho9
             omega
           obtain ⟨lo, hi, M2⟩ := nilTol ((((M.drop 0).drop 5).drop 5).drop 5)
           obtain ⟨E1, hE1, M3⟩ := Dsk.close (b := bB) (D := ⟨s, Tol.none, of⟩) rl ro ⟨none, 0, lo, hi⟩ ⟨none, 0, lo, hi⟩ ⟨none, 0, lo, hi⟩ ⟨none, 0, lo, hi⟩ ⟨none, 0, lo, hi⟩ (M2.perm (List.perm_append_comm_assoc (tolE Tol.none _ _ _ _ _) [_, _, _] _))
           exact ⟨_, E1, .inl ⟨rfl, rfl, hNo⟩, hE1, S.sub _ rfl, M3⟩)
        | (have hNo : s.NoHear m := fun o9 h9 e1 e2 e3 e4 e5 => by
             rcases hF with ⟨k, q, h1, -⟩ | ⟨-, h2⟩
             · omega
             · have this : o9.nm.eqb m.name = false := h2 o9 (by rw [h9]; simp)
               rw [Nm.eqb_iff.2 e1] at this; exact absurd this (by decide)
           obtain ⟨lo, hi, M2⟩ := nilTol (((M.drop 5).drop 5).drop 5)
           obtain ⟨E1, hE1, M3⟩ := Dsk.close (b := bB) (D := ⟨s, Tol.none, of⟩) rl ro ⟨none, 0, lo, hi⟩ ⟨none, 0, lo, hi⟩ ⟨none, 0, lo, hi⟩ ⟨none, 0, lo, hi⟩ ⟨none, 0, lo, hi⟩ (M2.perm (List.perm_append_comm_assoc (tolE Tol.none _ _ _ _ _) [_, _, _] _))
           exact ⟨_, E1, .inl ⟨rfl, rfl, hNo⟩, hE1, S.sub _ rfl, M3⟩)
    clear S; intro h60 S
    refine st_run [9, 8, 14, 9, 1, 1, 1, 1] S M rfl (by kernel_rfl) ?_; clear S a; intro a S
    replace S := S.sub [(0, _), (1, _), (2, _), (3, _), (4, _), (5, _), (6, _), (7, _), (8, _), (19, _), (9, _), (10, _), (35, _), (11, _), (44, _)] rfl
    refine nxC ?_
    refine st_if (t := 44) S rfl ?_ ?_
    · clear S; intro h44 S
      refine st_condT S rfl ?_
      have hty : (⟨s, Tol.none, of⟩ : Dsk).tiny := ⟨by show s.l.length ≤ 500; omega, hov, Nat.zero_le _, Nat.zero_le _, Nat.zero_le _, Nat.zero_le _, Nat.zero_le _⟩
      replace M := M.front 3 rfl
      simp only [List.eraseIdx_cons_succ, List.eraseIdx_cons_zero] at M
      replace M := M.front 3 rfl
      simp only [List.eraseIdx_cons_succ, List.eraseIdx_cons_zero] at M
      replace M := M.front 3 rfl
      simp only [List.eraseIdx_cons_succ, List.eraseIdx_cons_zero] at M
      obtain ⟨lo, hi, M2⟩ := nilTol M
      obtain ⟨E1, hE1, M3⟩ := Dsk.close (b := bB) (D := ⟨s, Tol.none, of⟩) rl ro ⟨none, 0, lo, hi⟩ ⟨none, 0, lo, hi⟩ ⟨none, 0, lo, hi⟩ ⟨none, 0, lo, hi⟩ ⟨none, 0, lo, hi⟩ (M2.perm (List.perm_append_comm_assoc (tolE Tol.none _ _ _ _ _) [_, _, _] _))
      clear M; have M := M3; clear M2 M3
      refine wp_region_lit ?_
      refine st_go [1, 1] S rfl (by kernel_rfl) ?_; clear S a; intro a S
      refine st_y S rfl rfl rfl (y_loadAgg (cs := [_, _, _, _, _, _, _, _, _, _, _, _, _, _, _, _, _, _, _, _, _, _, _, _]) S (by kernel_rfl) rfl rfl (M.cellsAt (k := 24) 4 rfl rfl)) ?_; clear S a; intro a S
      refine st_call (xs := [(Operand.tmp 68), (Operand.tmp 69), (Operand.tmp 70)]) S (enters_of Try.func23 (by decide) rfl) rfl rfl rfl (did_any (A := _ :: _ :: _ :: _ :: _ :: _ :: A) i o m wa x.length wc hE1 M hty hio (hm.bd o (List.mem_of_getElem? hio))) ?_
      rintro _ w19 ⟨rfl, E2, hEd, M1⟩; refine ⟨_, rfl, ?_⟩; clear S M a; intro a S; have M := M1; clear M1
      refine wpList_nil ?_
      refine block_normal ?_
      refine then_normal ?_
      first
        | exact ⟨_, E2, .inr ⟨i, o, _, hio, Nm.eqb_iff.1 hnm, rfl, rfl, .inl ⟨by omega, by omega, by omega, by omega, rfl⟩⟩, hEd, S.sub _ rfl, (((M.drop 0).drop 2).drop 2).drop 2⟩
        | exact ⟨_, E2, .inr ⟨i, o, _, hio, Nm.eqb_iff.1 hnm, rfl, rfl, .inr ⟨by omega, by omega, by omega, rfl⟩⟩, hEe, S.sub _ rfl, (((M.drop 0).drop 2).drop 2).drop 2⟩
        | (have hNo : s.NoHear m := fun o9 h9 e1 e2 e3 e4 e5 => by
             have ho9 := hio
             rw [h9, show i = 0 by rw [h9] at hil; simpa using hil] at ho9
             obtain rfl := Option.some.inj ho9
             omega
           obtain ⟨lo, hi, M2⟩ := nilTol ((((M.drop 0).drop 5).drop 5).drop 5)
           obtain ⟨E1, hE1, M3⟩ := Dsk.close (b := bB) (D := ⟨s, Tol.none, of⟩) rl ro ⟨none, 0, lo, hi⟩ ⟨none, 0, lo, hi⟩ ⟨none, 0, lo, hi⟩ ⟨none, 0, lo, hi⟩ ⟨none, 0, lo, hi⟩ (M2.perm (List.perm_append_comm_assoc (tolE Tol.none _ _ _ _ _) [_, _, _] _))
           exact ⟨_, E1, .inl ⟨rfl, rfl, hNo⟩, hE1, S.sub _ rfl, M3⟩)
        | (have hNo : s.NoHear m := fun o9 h9 e1 e2 e3 e4 e5 => by
             rcases hF with ⟨k, q, h1, -⟩ | ⟨-, h2⟩
             · omega
             · have this : o9.nm.eqb m.name = false := h2 o9 (by rw [h9]; simp)
               rw [Nm.eqb_iff.2 e1] at this; exact absurd this (by decide)
           obtain ⟨lo, hi, M2⟩ := nilTol (((M.drop 5).drop 5).drop 5)
           obtain ⟨E1, hE1, M3⟩ := Dsk.close (b := bB) (D := ⟨s, Tol.none, of⟩) rl ro ⟨none, 0, lo, hi⟩ ⟨none, 0, lo, hi⟩ ⟨none, 0, lo, hi⟩ ⟨none, 0, lo, hi⟩ ⟨none, 0, lo, hi⟩ (M2.perm (List.perm_append_comm_assoc (tolE Tol.none _ _ _ _ _) [_, _, _] _))
           exact ⟨_, E1, .inl ⟨rfl, rfl, hNo⟩, hE1, S.sub _ rfl, M3⟩)
    clear S; intro h44 S
    refine st_condF S rfl ?_
    refine nxD ?_
    refine st_run [1, 8, 1, 1] S M rfl (by kernel_rfl) ?_; clear S a; intro a S
    refine st_fi (t := 76) S rfl ?_ ?_
    · clear S; intro h76 S
      refine st_go [0, 0, 0, 1, 1, 0, 0, 0, 0, 0, 1, 1] S rfl (by kernel_rfl) ?_; clear S a; intro a S
      replace S := S.sub [(0, _), (1, _), (2, _), (3, _), (4, _), (5, _), (6, _), (7, _), (8, _), (19, _), (9, _), (10, _), (35, _), (11, _), (44, _), (72, _)] rfl
      refine nxC ?_
      refine st_condF S rfl ?_
      refine wp_skip ?_
      refine block_normal ?_
      refine then_normal ?_
      first
        | exact ⟨_, E2, .inr ⟨i, o, _, hio, Nm.eqb_iff.1 hnm, rfl, rfl, .inl ⟨by omega, by omega, by omega, by omega, rfl⟩⟩, hEd, S.sub _ rfl, (((M.drop 0).drop 2).drop 2).drop 2⟩
        | exact ⟨_, E2, .inr ⟨i, o, _, hio, Nm.eqb_iff.1 hnm, rfl, rfl, .inr ⟨by omega, by omega, by omega, rfl⟩⟩, hEe, S.sub _ rfl, (((M.drop 0).drop 2).drop 2).drop 2⟩
        | (have hNo : s.NoHear m := fun o9 h9 e1 e2 e3 e4 e5 => by
             have ho9 := hio
             rw [h9, show i = 0 by rw [h9] at hil; simpa using hil] at ho9
             obtain rfl := Option.some.inj ho9
             omega
           obtain ⟨lo, hi, M2⟩ := nilTol ((((M.drop 0).drop 5).drop 5).drop 5)
           obtain ⟨E1, hE1, M3⟩ := Dsk.close (b := bB) (D := ⟨s, Tol.none, of⟩) rl ro ⟨none, 0, lo, hi⟩ ⟨none, 0, lo, hi⟩ ⟨none, 0, lo, hi⟩ ⟨none, 0, lo, hi⟩ ⟨none, 0, lo, hi⟩ (M2.perm (List.perm_append_comm_assoc (tolE Tol.none _ _ _ _ _) [_, _, _] _))
           exact ⟨_, E1, .inl ⟨rfl, rfl, hNo⟩, hE1, S.sub _ rfl, M3⟩)
        | (have hNo : s.NoHear m := fun o9 h9 e1 e2 e3 e4 e5 => by
             rcases hF with ⟨k, q, h1, -⟩ | ⟨-, h2⟩
             · omega
             · have this : o9.nm.eqb m.name = false := h2 o9 (by rw [h9]; simp)
               rw [Nm.eqb_iff.2 e1] at this; exact absurd this (by decide)
           obtain ⟨lo, hi, M2⟩ := nilTol (((M.drop 5).drop 5).drop 5)
           obtain ⟨E1, hE1, M3⟩ := Dsk.close (b := bB) (D := ⟨s, Tol.none, of⟩) rl ro ⟨none, 0, lo, hi⟩ ⟨none, 0, lo, hi⟩ ⟨none, 0, lo, hi⟩ ⟨none, 0, lo, hi⟩ ⟨none, 0, lo, hi⟩ (M2.perm (List.perm_append_comm_assoc (tolE Tol.none _ _ _ _ _) [_, _, _] _))
           exact ⟨_, E1, .inl ⟨rfl, rfl, hNo⟩, hE1, S.sub _ rfl, M3⟩)
    clear S; intro h76 S
    refine st_run [6, 1, 1, 1, 1] S M rfl (by kernel_rfl) ?_; clear S a; intro a S
    refine st_fi (t := 81) S rfl ?_ ?_
    · clear S; intro h81 S
      refine st_go [0, 0, 0, 0, 0, 1, 1] S rfl (by kernel_rfl) ?_; clear S a; intro a S
      replace S := S.sub [(0, _), (1, _), (2, _), (3, _), (4, _), (5, _), (6, _), (7, _), (8, _), (19, _), (9, _), (10, _), (35, _), (11, _), (44, _), (72, _)] rfl
      refine nxC ?_
      refine st_condF S rfl ?_
      refine wp_skip ?_
      refine block_normal ?_
      refine then_normal ?_
      first
        | exact ⟨_, E2, .inr ⟨i, o, _, hio, Nm.eqb_iff.1 hnm, rfl, rfl, .inl ⟨by omega, by omega, by omega, by omega, rfl⟩⟩, hEd, S.sub _ rfl, (((M.drop 0).drop 2).drop 2).drop 2⟩
        | exact ⟨_, E2, .inr ⟨i, o, _, hio, Nm.eqb_iff.1 hnm, rfl, rfl, .inr ⟨by omega, by omega, by omega, rfl⟩⟩, hEe, S.sub _ rfl, (((M.drop 0).drop 2).drop 2).drop 2⟩
        | (have hNo : s.NoHear m := fun o9 h9 e1 e2 e3 e4 e5 => by
             have ho9 := hio
             rw [h9, show i = 0 by rw [h9] at hil; simpa using hil] at ho9
             obtain rfl := Option.some.inj ho9
             omega
           obtain ⟨lo, hi, M2⟩ := nilTol ((((M.drop 0).drop 5).drop 5).drop 5)
           obtain ⟨E1, hE1, M3⟩ := Dsk.close (b := bB) (D := ⟨s, Tol.none, of⟩) rl ro ⟨none, 0, lo, hi⟩ ⟨none, 0, lo, hi⟩ ⟨none, 0, lo, hi⟩ ⟨none, 0, lo, hi⟩ ⟨none, 0, lo, hi⟩ (M2.perm (List.perm_append_comm_assoc (tolE Tol.none _ _ _ _ _) [_, _, _] _))
           exact ⟨_, E1, .inl ⟨rfl, rfl, hNo⟩, hE1, S.sub _ rfl, M3⟩)
        | (have hNo : s.NoHear m := fun o9 h9 e1 e2 e3 e4 e5 => by
             rcases hF with ⟨k, q, h1, -⟩ | ⟨-, h2⟩
             · omega
             · have this : o9.nm.eqb m.name = false := h2 o9 (by rw [h9]; simp)
               rw [Nm.eqb_iff.2 e1] at this; exact absurd this (by decide)
           obtain ⟨lo, hi, M2⟩ := nilTol (((M.drop 5).drop 5).drop 5)
           obtain ⟨E1, hE1, M3⟩ := Dsk.close (b := bB) (D := ⟨s, Tol.none, of⟩) rl ro ⟨none, 0, lo, hi⟩ ⟨none, 0, lo, hi⟩ ⟨none, 0, lo, hi⟩ ⟨none, 0, lo, hi⟩ ⟨none, 0, lo, hi⟩ (M2.perm (List.perm_append_comm_assoc (tolE Tol.none _ _ _ _ _) [_, _, _] _))
           exact ⟨_, E1, .inl ⟨rfl, rfl, hNo⟩, hE1, S.sub _ rfl, M3⟩)
    clear S; intro h81 S
    refine st_run [2, 8, 13, 1, 1, 1, 1] S M rfl (by kernel_rfl) ?_; clear S a; intro a S
    replace S := S.sub [(0, _), (1, _), (2, _), (3, _), (4, _), (5, _), (6, _), (7, _), (8, _), (19, _), (9, _), (10, _), (35, _), (11, _), (44, _), (72, _)] rfl
    refine nxC ?_
    refine st_fi (t := 72) S rfl ?_ ?_
    · clear S; intro h72 S
      refine st_condF S rfl ?_
      refine wp_skip ?_
      refine block_normal ?_
      refine then_normal ?_
      first
        | exact ⟨_, E2, .inr ⟨i, o, _, hio, Nm.eqb_iff.1 hnm, rfl, rfl, .inl ⟨by omega, by omega, by omega, by omega, rfl⟩⟩, hEd, S.sub _ rfl, (((M.drop 0).drop 2).drop 2).drop 2⟩
        | exact ⟨_, E2, .inr ⟨i, o, _, hio, Nm.eqb_iff.1 hnm, rfl, rfl, .inr ⟨by omega, by omega, by omega, rfl⟩⟩, hEe, S.sub _ rfl, (((M.drop 0).drop 2).drop 2).drop 2⟩
        | (have hNo : s.NoHear m := fun o9 h9 e1 e2 e3 e4 e5 => by
             have ho9 := hio
             rw [h9, show i = 0 by rw [h9] at hil; simpa using hil] at ho9
             obtain rfl := Option.some.inj ho9
             omega
           obtain ⟨lo, hi, M2⟩ := nilTol ((((M.drop 0).drop 5).drop 5).drop 5)
           obtain ⟨E1, hE1, M3⟩ := Dsk.close (b := bB) (D := ⟨s, Tol.none, of⟩) rl ro ⟨none, 0, lo, hi⟩ ⟨none, 0, lo, hi⟩ ⟨none, 0, lo, hi⟩ ⟨none, 0, lo, hi⟩ ⟨none, 0, lo, hi⟩ (M2.perm (List.perm_append_comm_assoc (tolE Tol.none _ _ _ _ _) [_, _, _] _))
           exact ⟨_, E1, .inl ⟨rfl, rfl, hNo⟩, hE1, S.sub _ rfl, M3⟩)
        | (have hNo : s.NoHear m := fun o9 h9 e1 e2 e3 e4 e5 => by
             rcases hF with ⟨k, q, h1, -⟩ | ⟨-, h2⟩
             · omega
             · have this : o9.nm.eqb m.name = false := h2 o9 (by rw [h9]; simp)
               rw [Nm.eqb_iff.2 e1] at this; exact absurd this (by decide)
           obtain ⟨lo, hi, M2⟩ := nilTol (((M.drop 5).drop 5).drop 5)
           obtain ⟨E1, hE1, M3⟩ := Dsk.close (b := bB) (D := ⟨s, Tol.none, of⟩) rl ro ⟨none, 0, lo, hi⟩ ⟨none, 0, lo, hi⟩ ⟨none, 0, lo, hi⟩ ⟨none, 0, lo, hi⟩ ⟨none, 0, lo, hi⟩ (M2.perm (List.perm_append_comm_assoc (tolE Tol.none _ _ _ _ _) [_, _, _] _))
           exact ⟨_, E1, .inl ⟨rfl, rfl, hNo⟩, hE1, S.sub _ rfl, M3⟩)
    clear S; intro h72 S
    refine st_condT S rfl ?_
    have hty : (⟨s, Tol.none, of⟩ : Dsk).tiny := ⟨by show s.l.length ≤ 500; omega, hov, Nat.zero_le _, Nat.zero_le _, Nat.zero_le _, Nat.zero_le _, Nat.zero_le _⟩
    replace M := M.front 3 rfl
    simp only [List.eraseIdx_cons_succ, List.eraseIdx_cons_zero] at M
    replace M := M.front 3 rfl
    simp only [List.eraseIdx_cons_succ, List.eraseIdx_cons_zero] at M
    replace M := M.front 3 rfl
    simp only [List.eraseIdx_cons_succ, List.eraseIdx_cons_zero] at M
    obtain ⟨lo, hi, M2⟩ := nilTol M
    obtain ⟨E1, hE1, M3⟩ := Dsk.close (b := bB) (D := ⟨s, Tol.none, of⟩) rl ro ⟨none, 0, lo, hi⟩ ⟨none, 0, lo, hi⟩ ⟨none, 0, lo, hi⟩ ⟨none, 0, lo, hi⟩ ⟨none, 0, lo, hi⟩ (M2.perm (List.perm_append_comm_assoc (tolE Tol.none _ _ _ _ _) [_, _, _] _))
    clear M; have M := M3; clear M2 M3
    refine wp_regionKC (C := fun W => Blk W bC0 (msgW m (.slice wa x.length wc)).toArray 45) [2, 7] #[false, false, false, false, false, false, false, false] rfl M (by kernel_rfl) ?_; clear M; intro w20 M; have hC := M.blk 4 rfl
    refine kc_readC (listed' := #[true, false, false, false, false, false, false, false]) 0 S rfl rfl rfl rfl (by kernel_rfl) rfl (fun _ d _ _ _ h => by cases d <;> exact h) hC (fun w _ => y_move S rfl) ?_; clear S a; intro a S
    refine kc_readC (listed' := #[true, true, false, false, false, false, false, false]) 1 S rfl rfl rfl rfl (by kernel_rfl) rfl (fun _ d _ _ _ h => by cases d <;> exact h) hC (fun w _ => y_move S rfl) ?_; clear S a; intro a S
    refine kc_readC (listed' := #[true, true, false, true, false, false, false, false]) 3 S rfl rfl rfl rfl (by kernel_rfl) rfl (fun _ d _ _ _ h => by cases d <;> exact h) hC (fun w _ => y_fieldAddr (k := 19) S (by kernel_rfl) rfl) ?_; clear S a; intro a S
    refine kc_readC (listed' := #[true, true, false, true, true, false, false, false]) 4 S rfl rfl rfl rfl (by kernel_rfl) rfl (fun _ d _ _ _ h => by cases d <;> exact h) hC (fun w hC => y_load S (by kernel_rfl) rfl (hC.cells 19)) ?_; clear S a; intro a S
    refine kc_readC (listed' := #[true, true, false, true, true, true, false, false]) 5 S rfl rfl rfl rfl (by kernel_rfl) rfl (fun _ d _ _ _ h => by cases d <;> exact h) hC (fun w _ => y_fieldAddr (k := 19) S (by kernel_rfl) rfl) ?_; clear S a; intro a S
    refine kc_readC (listed' := #[true, true, false, true, true, true, true, false]) 6 S rfl rfl rfl rfl (by kernel_rfl) rfl (fun _ d _ _ _ h => by cases d <;> exact h) hC (fun w hC => y_load S (by kernel_rfl) rfl (hC.cells 19)) ?_; clear S a; intro a S
    refine kc_one (listed' := #[true, true, true, true, true, true, true, false]) 2 rfl (by kernel_rfl) rfl ?_
    refine st_call (xs := [(Operand.tmp 88), (Operand.tmp 89), (Operand.const (Value.int IntKind.i8 3))]) S (enters_of Try.func24 (by decide) rfl) rfl rfl rfl (ending_any (A := _ :: _ :: _ :: _ :: _ :: _ :: A) i o 3 hE1 M hty.mid hio) ?_
    rintro _ w21 ⟨b3, b4, b5, b7, rfl, E5, hE5, M1⟩; refine ⟨_, rfl, ?_⟩; clear S M a; intro a S; have M := M1; clear M1
    replace hC := M.blk 8 rfl
    refine wpList_nil ?_; refine then_normal ?_; refine ⟨fun h => absurd h (by decide), hC, ?_⟩
    refine kc_one (listed' := #[true, true, true, true, true, true, true, true]) 7 rfl (by kernel_rfl) rfl ?_
    refine st_callB (xs := [(Operand.tmp 92), (Operand.tmp 94), (Operand.const (Value.bool true))]) (fi := []) (ca := [.pointer (some ⟨b3, 0, none⟩), .pointer (some ⟨b7, 0, none⟩), .pointer (some ⟨b4, 0, none⟩), .pointer (some ⟨b5, 0, none⟩)]) S (enters_of Try.func48 (by decide) rfl) rfl rfl (rfl) rfl (ending1_any (A := _ :: _ :: _ :: _ :: _ :: _ :: A) i o 3 m.e m.e true hE5 M hty.mid hil) ?_
    rintro _ w22 ⟨rfl, E2, hEe, M1⟩; refine ⟨_, rfl, ?_⟩; clear S M a; intro a S; have M := M1; clear M1
    replace hC := M.blk 4 rfl
    refine wpList_nil ?_; refine then_normal ?_; refine ⟨fun h => absurd h (by decide), hC, ?_⟩
    refine kc_end (by kernel_rfl) ?_
    refine block_normal ?_
    refine then_normal ?_
    first
      | exact ⟨_, E2, .inr ⟨i, o, _, hio, Nm.eqb_iff.1 hnm, rfl, rfl, .inl ⟨by omega, by omega, by omega, by omega, rfl⟩⟩, hEd, S.sub _ rfl, (((M.drop 0).drop 2).drop 2).drop 2⟩
      | exact ⟨_, E2, .inr ⟨i, o, _, hio, Nm.eqb_iff.1 hnm, rfl, rfl, .inr ⟨by omega, by omega, by omega, rfl⟩⟩, hEe, S.sub _ rfl, (((M.drop 0).drop 2).drop 2).drop 2⟩
      | (have hNo : s.NoHear m := fun o9 h9 e1 e2 e3 e4 e5 => by
           have ho9 := hio
           rw [h9, show i = 0 by rw [h9] at hil; simpa using hil] at ho9
           obtain rfl := Option.some.inj ho9
           omega
         obtain ⟨lo, hi, M2⟩ := nilTol ((((M.drop 0).drop 5).drop 5).drop 5)
         obtain ⟨E1, hE1, M3⟩ := Dsk.close (b := bB) (D := ⟨s, Tol.none, of⟩) rl ro ⟨none, 0, lo, hi⟩ ⟨none, 0, lo, hi⟩ ⟨none, 0, lo, hi⟩ ⟨none, 0, lo, hi⟩ ⟨none, 0, lo, hi⟩ (M2.perm (List.perm_append_comm_assoc (tolE Tol.none _ _ _ _ _) [_, _, _] _))
         exact ⟨_, E1, .inl ⟨rfl, rfl, hNo⟩, hE1, S.sub _ rfl, M3⟩)
      | (have hNo : s.NoHear m := fun o9 h9 e1 e2 e3 e4 e5 => by
           rcases hF with ⟨k, q, h1, -⟩ | ⟨-, h2⟩
           · omega
           · have this : o9.nm.eqb m.name = false := h2 o9 (by rw [h9]; simp)
             rw [Nm.eqb_iff.2 e1] at this; exact absurd this (by decide)
         obtain ⟨lo, hi, M2⟩ := nilTol (((M.drop 5).drop 5).drop 5)
         obtain ⟨E1, hE1, M3⟩ := Dsk.close (b := bB) (D := ⟨s, Tol.none, of⟩) rl ro ⟨none, 0, lo, hi⟩ ⟨none, 0, lo, hi⟩ ⟨none, 0, lo, hi⟩ ⟨none, 0, lo, hi⟩ ⟨none, 0, lo, hi⟩ (M2.perm (List.perm_append_comm_assoc (tolE Tol.none _ _ _ _ _) [_, _, _] _))
         exact ⟨_, E1, .inl ⟨rfl, rfl, hNo⟩, hE1, S.sub _ rfl, M3⟩)
  clear S a M; intro a wc
  rintro ⟨D', E2, hD', hE2, S, M⟩
  obtain ⟨rl2, ro2, rm2, ra2, rs2, rc2, re2, M1⟩ := Dsk.open (A := _ :: _ :: A) hE2 M
  clear M; have M := M1; clear M1
  refine wp_seq ?_
  refine wp_regionKC (C := fun W => CellsAt W bB 4 (tolL D'.t rm2 ra2 rs2 rc2 re2)) [8, 9] #[false, false, false, false, false, false, false, false, false, false, false] rfl M (by kernel_rfl) ?_; clear M; intro w32 M; have hC := M.cellsAt (o := 4) (k := 5) 0 rfl rfl
  refine kc_readC (listed' := #[true, false, false, false, false, false, false, false, false, false, false]) 0 S rfl rfl rfl rfl (by kernel_rfl) rfl (fun _ d _ _ _ h => by cases d <;> exact h) hC (fun w _ => y_move S rfl) ?_; clear S a; intro a S
  refine kc_readC (listed' := #[true, true, false, false, false, false, false, false, false, false, false]) 1 S rfl rfl rfl rfl (by kernel_rfl) rfl (fun _ d _ _ _ h => by cases d <;> exact h) hC (fun w _ => y_nilCheck S rfl) ?_; clear S a; intro a S
  refine kc_readC (listed' := #[true, true, true, false, false, false, false, false, false, false, false]) 2 S rfl rfl rfl rfl (by kernel_rfl) rfl (fun _ d _ _ _ h => by cases d <;> exact h) hC (fun w _ => y_fieldAddr (k := 0) S (by kernel_rfl) rfl) ?_; clear S a; intro a S
  refine kc_read (listed' := #[true, true, true, true, false, false, false, false, false, false, false]) 3 S rfl rfl rfl rfl (by kernel_rfl) rfl (fun _ d _ _ _ h => by cases d <;> exact h) hC (fun w hW => have M := M.grow hW; y_loadAgg (cs := [_, _, _, _]) S (by kernel_rfl) rfl rfl (M.cellsAt (k := 4) 0 rfl rfl)) ?_; clear S a; intro a S
  refine kc_readC (listed' := #[true, true, true, true, true, false, false, false, false, false, false]) 4 S rfl rfl rfl rfl (by kernel_rfl) rfl (fun _ d _ _ _ h => by cases d <;> exact h) hC (fun w _ => y_move S rfl) ?_; clear S a; intro a S
  refine kc_readC (listed' := #[true, true, true, true, true, true, false, false, false, false, false]) 5 S rfl rfl rfl rfl (by kernel_rfl) rfl (fun _ d _ _ _ h => by cases d <;> exact h) hC (fun w _ => y_nilCheck S rfl) ?_; clear S a; intro a S
  refine kc_readC (listed' := #[true, true, true, true, true, true, true, false, false, false, false]) 6 S rfl rfl rfl rfl (by kernel_rfl) rfl (fun _ d _ _ _ h => by cases d <;> exact h) hC (fun w _ => y_fieldAddr (k := 4) S (by kernel_rfl) rfl) ?_; clear S a; intro a S
  refine kc_readC (listed' := #[true, true, true, true, true, true, true, true, false, false, false]) 7 S rfl rfl rfl rfl (by kernel_rfl) rfl (fun _ d _ _ _ h => by cases d <;> exact h) hC (fun w hC => y_loadAgg (cs := [_, _, _, _, _]) S (by kernel_rfl) rfl rfl (hC)) ?_; clear S a; intro a S
  refine kc_one (listed' := #[true, true, true, true, true, true, true, true, true, false, false]) 8 rfl (by kernel_rfl) rfl ?_
  refine st_store (sz := 4) (us := [_, _, _, _]) S M 9 rfl (by kernel_rfl) rfl rfl rfl rfl rfl rfl (by first | decide | (simp; done) | (simp; omega)) ?_; clear M; intro w33 M
  simp only [putL, List.set_cons_zero, List.set_cons_succ, Nat.reduceAdd] at M
  replace hC := M.cellsAt (o := 4) (k := 5) 0 rfl rfl
  refine wpList_nil ?_; refine then_normal ?_; refine ⟨fun h => absurd h (by decide), hC, ?_⟩
  refine kc_one (listed' := #[true, true, true, true, true, true, true, true, true, true, false]) 9 rfl (by kernel_rfl) rfl ?_
  refine st_store (sz := 5) (us := [_, _, _, _, _]) S M 8 rfl (by kernel_rfl) rfl rfl rfl rfl rfl rfl (by first | decide | (simp; done) | (simp; omega)) ?_; clear M; intro w34 M
  simp only [putL, List.set_cons_zero, List.set_cons_succ, Nat.reduceAdd] at M
  replace hC := M.cellsAt (o := 4) (k := 5) 0 rfl rfl
  refine wpList_nil ?_; refine then_normal ?_; refine ⟨fun h => absurd h (by decide), hC, ?_⟩
  refine kc_readC (listed' := #[true, true, true, true, true, true, true, true, true, true, true]) 10 S rfl rfl rfl rfl (by kernel_rfl) rfl (fun _ d _ _ _ h => by cases d <;> exact h) hC (fun w _ => y_assign S rfl) ?_; clear S a; intro a S
  refine kc_end (by kernel_rfl) ?_
  refine then_normal ?_
  refine wp_ret ?_
  refine end_three S rfl (res_agg (cs := [_, _, _, _]) (by kernel_rfl) rfl rfl (M.cellsAt (k := 4) 9 rfl rfl)) (res_agg (cs := [_, _, _, _, _]) (by kernel_rfl) rfl rfl (M.cellsAt (k := 5) 8 rfl rfl)) (res_tmp rfl) ?_
  refine ⟨D'.s, D'.t, 0, rl2, ro2, rm2, ra2, rs2, rc2, re2, rfl, ?_, fun _ => ⟨hm, by assumption, hD'⟩, fun h => absurd rfl h⟩
  exact ((M.drop 0).drop 7).drop 7
end Go.Proofs.Ytniijiipkfhjgaa

namespace Go.Proofs.Ytniijiipkfhjgaa
open Go.RowKit Go.Sort
def zOf : Of8 := ⟨0, 0, 0, 0, 0, 0, 0, 0⟩
/-- what comes of an end -/
def EndR (s : Ses) (n : Nm) (er : Int) (s' : Ses) (t' : Tol) : Prop :=
  ∃ (i : Nat) (o : Ope) (D' : Dsk), s.l[i]? = some o ∧ o.nm = n ∧ o.ph = 3 ∧ s' = D'.s ∧ t' = D'.t ∧
    ((er = 0 ∧ D' = Dsk.ended ⟨s, Tol.none, zOf⟩ i o 3 0 0 true) ∨ (er = 50 ∧ D' = (Dsk.mails ⟨s, Tol.none, zOf⟩ (refuseP o 0 4)).ended i o 3 50 50 true) ∨ ((er ≠ 0 ∧ er ≠ 50) ∧ D' = Dsk.ended ⟨s, Tol.none, zOf⟩ i o 3 121 121 true))
set_option maxHeartbeats 4000000 in
theorem end_any {wo w : World} {A : List Ent} (s : Ses) (va oa : Option Addr) (vc oc : Nat) (n : Nm) (er : Int) (hR : RdS wo A s va vc oa oc) (M : Mem wo w A) (hov : s.over.length ≤ 500) (hsh : ∀ o ∈ s.l, ShOk o.sh) :
    Calls Try.prog 11 #[.agg #[.slice va s.l.length vc, .int .i64 s.last, .int .i64 s.inc, .slice oa s.over.length oc], .agg (nmL n).toArray, .int .i64 er] w fun e w' => StepP wo A e w' fun s' t' => s.May ∧ EndR s n er s' t' := by
  refine calls_enter Try.func11 rfl 74 rfl rfl ?_; intro a S
  refine nxD ?_
  refine st_box S M rfl rfl rfl #[_, _, _, _] rfl ?_; clear S M a; intro a w1 bS0 S M hB
  refine st_box S M rfl rfl rfl #[_, _, _] rfl ?_; clear S M a; intro a w2 bC0 S M hB
  refine st_alloc S M rfl rfl #[.slice none 0 0, .int .i64 0, .int .i64 0, .slice none 0 0] (by kernel_rfl) ?_; clear S M a; intro a w3 bR0 S M hB
  refine st_alloc S M rfl rfl #[.slice none 0 0, .slice none 0 0, .slice none 0 0, .slice none 0 0, .slice none 0 0] (by kernel_rfl) ?_; clear S M a; intro a w4 bT0 S M hB
  refine st_go [1] S rfl (by kernel_rfl) ?_; clear S a; intro a S
  refine nxC ?_
  refine wp_seq ?_
  refine nxD ?_
  refine st_y S rfl rfl rfl (y_loadAgg (cs := [_, _, _, _]) S (by kernel_rfl) rfl rfl (M.cellsAt (k := 4) 3 rfl rfl)) ?_; clear S a; intro a S
  refine st_call (xs := [(Operand.tmp 12)]) S (enters_of Try.func16 (by decide) rfl) rfl rfl rfl (check_any s va oa vc oc _ (hR _ (M.sub (.cons _ (.cons _ (.cons _ (.cons _ (List.Sublist.refl _))))))).1 (hR _ (M.sub (.cons _ (.cons _ (.cons _ (.cons _ (List.Sublist.refl _))))))).2 hsh) ?_
  rintro _ w5 ⟨r, rfl, hK, hr⟩; refine ⟨_, rfl, ?_⟩; clear S a; intro a S; replace M := M.grow hK
  refine st_go [1] S rfl (by kernel_rfl) ?_; clear S a; intro a S
  refine nxA ?_
  refine st_go [1, 1] S rfl (by kernel_rfl) ?_; clear S a; intro a S
  refine nxC ?_
  refine st_if (t := 15) S rfl ?_ ?_
  · clear S; intro h15 S
    refine st_condT S rfl ?_
    refine nxD ?_
    refine st_y S rfl rfl rfl (y_build (ps := []) (pl := [(0, 1), (1, 1), (2, 1), (3, 1)]) (z := [.slice none 0 0, .int .i64 0, .int .i64 0, .slice none 0 0]) (cs := [_, _, _, _]) S (by kernel_rfl) rfl (rfl)) ?_; clear S a; intro a S
    refine st_y S rfl rfl rfl (y_build (ps := []) (pl := [(0, 1), (1, 1), (2, 1), (3, 1), (4, 1)]) (z := [.slice none 0 0, .slice none 0 0, .slice none 0 0, .slice none 0 0, .slice none 0 0]) (cs := [_, _, _, _, _]) S (by kernel_rfl) rfl (rfl)) ?_; clear S a; intro a S
    refine st_go [1] S rfl (by kernel_rfl) ?_; clear S a; intro a S
    refine st_store (sz := 4) (us := [_, _, _, _]) S M 1 rfl (by kernel_rfl) rfl rfl rfl rfl rfl rfl (by first | decide | (simp; done) | (simp; omega)) ?_; clear M; intro w6 M
    simp only [putL, List.set_cons_zero, List.set_cons_succ, Nat.reduceAdd] at M
    refine st_store (sz := 5) (us := [_, _, _, _, _]) S M 0 rfl (by kernel_rfl) rfl rfl rfl rfl rfl rfl (by first | decide | (simp; done) | (simp; omega)) ?_; clear M; intro w7 M
    simp only [putL, List.set_cons_zero, List.set_cons_succ, Nat.reduceAdd] at M
    refine st_go [1] S rfl (by kernel_rfl) ?_; clear S a; intro a S
    refine nxC ?_
    refine wp_ret ?_
    refine then_ret ?_
    refine end_three S rfl (res_agg (cs := [_, _, _, _]) (by kernel_rfl) rfl rfl (M.cellsAt (k := 4) 1 rfl rfl)) (res_agg (cs := [_, _, _, _, _]) (by kernel_rfl) rfl rfl (M.cellsAt (k := 5) 0 rfl rfl)) (res_tmp rfl) ?_
    obtain ⟨lo, hi, M2⟩ := nilSes (M.drop 0 |>.drop 0 |>.drop 0 |>.drop 0)
    exact ⟨Ses.none, Tol.none, r, _, _, _, _, _, _, _, rfl, M2, fun h => by omega⟩
  clear S; intro h15 S
  refine st_condF S rfl ?_
  refine wp_skip ?_
  refine then_normal ?_
  refine wp_seq ?_
  have hm : s.May := by
    rcases hr with ⟨-, h⟩ | ⟨h, -⟩
    · exact h
    · omega
  have hml := hm.len
  refine wp_region_lit ?_
  refine st_y S rfl rfl rfl (y_loadAgg (cs := [_, _, _, _]) S (by kernel_rfl) rfl rfl (M.cellsAt (k := 4) 3 rfl rfl)) ?_; clear S a; intro a S
  refine st_call (xs := [(Operand.tmp 19)]) S (enters_of Try.func18 (by decide) rfl) rfl rfl rfl (copied_any (A := _ :: _ :: _ :: _ :: A) s va oa vc oc (fun W M9 => hR W (M9.sub (.cons _ (.cons _ (.cons _ (.cons _ (List.Sublist.refl _))))))) M (by omega) hov) ?_
  rintro _ w8 ⟨rl, ro, rfl, M1⟩; refine ⟨_, rfl, ?_⟩; clear S M a; intro a S; have M := M1; clear M1
  refine st_y S rfl rfl rfl (y_build (ps := [(0, (Operand.tmp 20))]) (pl := [(0, 4), (4, 5), (9, 8)]) (z := [.slice none 0 0, .int .i64 0, .int .i64 0, .slice none 0 0, .slice none 0 0, .slice none 0 0, .slice none 0 0, .slice none 0 0, .slice none 0 0, .int .i64 0, .int .i64 0, .int .i64 0, .int .i64 0, .int .i64 0, .int .i64 0, .int .i64 0, .int .i64 0]) (cs := [_, _, _, _, _, _, _, _, _, _, _, _, _, _, _, _, _]) S (by kernel_rfl) rfl (rfl)) ?_; clear S a; intro a S
  refine st_box S M rfl rfl rfl #[_, _, _, _, _, _, _, _, _, _, _, _, _, _, _, _, _] rfl ?_; clear S M a; intro a w9 bB S M hB
  refine st_go [1] S rfl (by kernel_rfl) ?_; clear S a; intro a S
  refine nxC ?_
  refine wp_seq ?_
  skip
  refine wp_regionK [] #[false, false, false, false, false, false, false] rfl M (by kernel_rfl) ?_; clear M; intro w10 M
  refine k_pure (listed' := #[true, false, false, false, false, false, false]) 0 S rfl rfl rfl rfl (by kernel_rfl) rfl (fun _ d _ _ _ h => by cases d <;> exact h) (fun w => y_move S rfl) ?_; clear S a; intro a S
  refine k_pure (listed' := #[true, true, false, false, false, false, false]) 1 S rfl rfl rfl rfl (by kernel_rfl) rfl (fun _ d _ _ _ h => by cases d <;> exact h) (fun w => y_nilCheck S rfl) ?_; clear S a; intro a S
  refine k_pure (listed' := #[true, true, true, false, false, false, false]) 2 S rfl rfl rfl rfl (by kernel_rfl) rfl (fun _ d _ _ _ h => by cases d <;> exact h) (fun w => y_fieldAddr (k := 0) S (by kernel_rfl) rfl) ?_; clear S a; intro a S
  refine k_read (listed' := #[true, true, true, true, false, false, false]) 3 S rfl rfl rfl rfl (by kernel_rfl) rfl (fun _ d _ _ _ h => by cases d <;> exact h) (fun w hW => have M := M.grow hW; y_loadAgg (cs := [_, _, _, _]) S (by kernel_rfl) rfl rfl (M.cellsAt (k := 4) 0 rfl rfl)) ?_; clear S a; intro a S
  refine k_read (listed' := #[true, true, true, true, true, false, false]) 4 S rfl rfl rfl rfl (by kernel_rfl) rfl (fun _ d _ _ _ h => by cases d <;> exact h) (fun w hW => have M := M.grow hW; y_loadAgg (cs := [_, _, _]) S (by kernel_rfl) rfl rfl (M.cellsAt (k := 3) 5 rfl rfl)) ?_; clear S a; intro a S
  refine k_one (listed' := #[true, true, true, true, true, true, false]) 5 rfl (by kernel_rfl) rfl ?_
  refine st_call (xs := [(Operand.tmp 26), (Operand.tmp 27)]) S (enters_of Try.func22 (by decide) rfl) rfl rfl rfl (place_any rl.a rl.c s.l s.last s.inc (ro.v s.over.length) n _ (M.readAll 1 rfl (by unfold maxLen; omega))) ?_
  rintro _ w11 ⟨j, rfl, hK, hF⟩; refine ⟨_, rfl, ?_⟩; clear S a; intro a S; replace M := M.grow hK
  refine wpList_nil ?_; refine then_normal ?_; refine ⟨fun _ => hK, ?_⟩
  refine k_pure (listed' := #[true, true, true, true, true, true, true]) 6 S rfl rfl rfl rfl (by kernel_rfl) rfl (fun _ d _ _ _ h => by cases d <;> exact h) (fun w => y_assign S rfl) ?_; clear S a; intro a S
  refine k_end (by kernel_rfl) ?_
  refine then_normal ?_
  refine wp_seq ?_
  refine nxD ?_
  refine st_go [1, 1, 1] S rfl (by kernel_rfl) ?_; clear S a; intro a S
  refine st_if (t := 31) S rfl ?_ ?_
  · clear S; intro h31 S
    refine st_no S rfl rfl rfl ?_; clear S a; intro a S
    refine st_go [0, 0, 0, 0, 0, 0, 0, 0, 0, 1] S rfl (by kernel_rfl) ?_; clear S a; intro a S
    replace S := S.sub [(0, _), (1, _), (2, _), (3, _), (4, _), (6, _), (7, _), (8, _), (9, _), (15, _), (10, _), (11, _), (42, _)] rfl
    refine nxC ?_
    refine st_condT S rfl ?_
    refine nxD ?_
    refine st_y S rfl rfl rfl (y_build (ps := []) (pl := [(0, 1), (1, 1), (2, 1), (3, 1)]) (z := [.slice none 0 0, .int .i64 0, .int .i64 0, .slice none 0 0]) (cs := [_, _, _, _]) S (by kernel_rfl) rfl (rfl)) ?_; clear S a; intro a S
    refine st_y S rfl rfl rfl (y_build (ps := []) (pl := [(0, 1), (1, 1), (2, 1), (3, 1), (4, 1)]) (z := [.slice none 0 0, .slice none 0 0, .slice none 0 0, .slice none 0 0, .slice none 0 0]) (cs := [_, _, _, _, _]) S (by kernel_rfl) rfl (rfl)) ?_; clear S a; intro a S
    refine st_store (sz := 4) (us := [_, _, _, _]) S M 4 rfl (by kernel_rfl) rfl rfl rfl rfl rfl rfl (by first | decide | (simp; done) | (simp; omega)) ?_; clear M; intro w12 M
    simp only [putL, List.set_cons_zero, List.set_cons_succ, Nat.reduceAdd] at M
    refine st_store (sz := 5) (us := [_, _, _, _, _]) S M 3 rfl (by kernel_rfl) rfl rfl rfl rfl rfl rfl (by first | decide | (simp; done) | (simp; omega)) ?_; clear M; intro w13 M
    simp only [putL, List.set_cons_zero, List.set_cons_succ, Nat.reduceAdd] at M
    refine st_go [1] S rfl (by kernel_rfl) ?_; clear S a; intro a S
    refine nxC ?_
    refine wp_ret ?_
    refine then_ret ?_
    refine end_three S rfl (res_agg (cs := [_, _, _, _]) (by kernel_rfl) rfl rfl (M.cellsAt (k := 4) 4 rfl rfl)) (res_agg (cs := [_, _, _, _, _]) (by kernel_rfl) rfl rfl (M.cellsAt (k := 5) 3 rfl rfl)) (res_tmp rfl) ?_
    obtain ⟨lo, hi, M2⟩ := nilSes (M.drop 0 |>.drop 0 |>.drop 0 |>.drop 0 |>.drop 0 |>.drop 0 |>.drop 0)
    exact ⟨Ses.none, Tol.none, 4, _, _, _, _, _, _, _, rfl, M2, fun h => absurd h (by decide)⟩
  clear S; intro h31 S
  first
    | (obtain ⟨i, o, rfl, hio, hnm⟩ := hF.get (by omega)
       have hil := (List.getElem?_eq_some_iff.1 hio).1)
    | skip
  refine st_y S rfl rfl rfl (y_move S rfl) ?_; clear S a; intro a S
  refine st_run [1, 1, 1, 1, 1] S M rfl (by kernel_rfl) ?_; clear S a; intro a S
  refine st_y S rfl rfl rfl (y_indexR (e := 65) (sz := 37) S (by kernel_rfl) rfl (M.readAll 1 rfl (by unfold maxLen; omega)) rfl (by first | omega | (simp; done) | (simp; omega))) ?_; clear S a; intro a S
  try simp only [Int.toNat_natCast, Nat.mul_one, Nat.zero_add] at S
  refine st_go [6] S rfl (by kernel_rfl) ?_; clear S a; intro a S
  refine st_y S rfl rfl rfl (y_load S (by kernel_rfl) rfl (((M.readAll 1 rfl (by unfold maxLen; omega)).at_.row (i := i) (fm_get len_ope hio) rfl) 5 (by show 5 < 37; omega))) ?_; clear S a; intro a S
  refine st_go [1, 1] S rfl (by kernel_rfl) ?_; clear S a; intro a S
  replace S := S.sub [(0, _), (1, _), (2, _), (3, _), (4, _), (6, _), (7, _), (8, _), (9, _), (15, _), (10, _), (11, _), (42, _)] rfl
  refine nxC ?_
  refine st_if (t := 42) S rfl ?_ ?_
  · clear S; intro h42 S
    refine st_condT S rfl ?_
    refine nxD ?_
    refine st_y S rfl rfl rfl (y_build (ps := []) (pl := [(0, 1), (1, 1), (2, 1), (3, 1)]) (z := [.slice none 0 0, .int .i64 0, .int .i64 0, .slice none 0 0]) (cs := [_, _, _, _]) S (by kernel_rfl) rfl (rfl)) ?_; clear S a; intro a S
    refine st_y S rfl rfl rfl (y_build (ps := []) (pl := [(0, 1), (1, 1), (2, 1), (3, 1), (4, 1)]) (z := [.slice none 0 0, .slice none 0 0, .slice none 0 0, .slice none 0 0, .slice none 0 0]) (cs := [_, _, _, _, _]) S (by kernel_rfl) rfl (rfl)) ?_; clear S a; intro a S
    refine st_store (sz := 4) (us := [_, _, _, _]) S M 4 rfl (by kernel_rfl) rfl rfl rfl rfl rfl rfl (by first | decide | (simp; done) | (simp; omega)) ?_; clear M; intro w14 M
    simp only [putL, List.set_cons_zero, List.set_cons_succ, Nat.reduceAdd] at M
    refine st_store (sz := 5) (us := [_, _, _, _, _]) S M 3 rfl (by kernel_rfl) rfl rfl rfl rfl rfl rfl (by first | decide | (simp; done) | (simp; omega)) ?_; clear M; intro w15 M
    simp only [putL, List.set_cons_zero, List.set_cons_succ, Nat.reduceAdd] at M
    refine st_go [1] S rfl (by kernel_rfl) ?_; clear S a; intro a S
    refine nxC ?_
    refine wp_ret ?_
    refine then_ret ?_
    refine end_three S rfl (res_agg (cs := [_, _, _, _]) (by kernel_rfl) rfl rfl (M.cellsAt (k := 4) 4 rfl rfl)) (res_agg (cs := [_, _, _, _, _]) (by kernel_rfl) rfl rfl (M.cellsAt (k := 5) 3 rfl rfl)) (res_tmp rfl) ?_
    obtain ⟨lo, hi, M2⟩ := nilSes (M.drop 0 |>.drop 0 |>.drop 0 |>.drop 0 |>.drop 0 |>.drop 0 |>.drop 0)
    exact ⟨Ses.none, Tol.none, 4, _, _, _, _, _, _, _, rfl, M2, fun h => absurd h (by decide)⟩
  clear S; intro h42 S
  refine st_condF S rfl ?_
  refine wp_skip ?_
  refine then_normal ?_
  have hph : o.ph = 3 := by omega
  have hty : (⟨s, Tol.none, zOf⟩ : Dsk).tiny := ⟨by show s.l.length ≤ 500; omega, hov, Nat.zero_le _, Nat.zero_le _, Nat.zero_le _, Nat.zero_le _, Nat.zero_le _⟩
  refine wp_cut (fun a w' => ∃ (D1 : Dsk) (e9 : Int) (E1 : List Ent), ((er = 0 ∧ e9 = 0 ∧ D1 = ⟨s, Tol.none, zOf⟩) ∨ (er = 50 ∧ e9 = 50 ∧ D1 = Dsk.mails ⟨s, Tol.none, zOf⟩ (refuseP o 0 4)) ∨ ((er ≠ 0 ∧ er ≠ 50) ∧ e9 = 121 ∧ D1 = ⟨s, Tol.none, zOf⟩)) ∧ DeskE bB D1 E1 ∧ Sees 74 a [(2, .int .i64 e9), (6, .pointer (some ⟨bR0, 0, none⟩)), (7, .pointer (some ⟨bT0, 0, none⟩)), (10, .pointer (some ⟨bB, 0, none⟩)), (11, .int .i64 (i : Int))] ∧ Mem wo w' (.blk bT0 (tolL Tol.none ⟨none, 0, 0, 0⟩ ⟨none, 0, 0, 0⟩ ⟨none, 0, 0, 0⟩ ⟨none, 0, 0, 0⟩ ⟨none, 0, 0, 0⟩).toArray 54 :: .blk bR0 (sesL Ses.none ⟨none, 0, 0, 0⟩ ⟨none, 0, 0, 0⟩).toArray 29 :: (A ++ E1))) ?_ ?_
  · skip
    refine nxD ?_
    refine st_go [1] S rfl (by kernel_rfl) ?_; clear S a; intro a S
    refine nxC ?_
    refine wp_block ?_
    refine nxD ?_
    refine st_go [1, 1] S rfl (by kernel_rfl) ?_; clear S a; intro a S
    refine nxC ?_
    refine st_if (t := 46) S rfl ?_ ?_
    · clear S; intro h46 S
      refine st_condT S rfl ?_
      refine wp_skip ?_
      refine block_normal ?_
      refine then_normal ?_
      first
        | exact ⟨_, er, E2, .inr (.inl ⟨by omega, by omega, rfl⟩), hE2, S.sub _ rfl, (M.drop 2).drop 2⟩
        | (obtain ⟨lo, hi, M2⟩ := nilTol ((M.drop 5).drop 5)
           obtain ⟨E1, hE1, M3⟩ := Dsk.close (b := bB) (D := ⟨s, Tol.none, zOf⟩) rl ro ⟨none, 0, lo, hi⟩ ⟨none, 0, lo, hi⟩ ⟨none, 0, lo, hi⟩ ⟨none, 0, lo, hi⟩ ⟨none, 0, lo, hi⟩ (M2.perm (List.perm_append_comm_assoc (tolE Tol.none _ _ _ _ _) [_, _, _] _))
           first
             | exact ⟨_, er, E1, .inl ⟨by omega, by omega, rfl⟩, hE1, S.sub _ rfl, M3⟩
             | exact ⟨_, 121, E1, .inr (.inr ⟨⟨by omega, by omega⟩, rfl, rfl⟩), hE1, S.sub _ rfl, M3⟩)
    clear S; intro h46 S
    refine st_condF S rfl ?_
    refine nxD ?_
    refine st_go [1, 1] S rfl (by kernel_rfl) ?_; clear S a; intro a S
    refine nxC ?_
    refine st_fi (t := 48) S rfl ?_ ?_
    · clear S; intro h48 S
      refine st_condF S rfl ?_
      refine wp_region_lit ?_
      refine st_go [1] S rfl (by kernel_rfl) ?_; clear S a; intro a S
      refine wpList_nil ?_
      refine block_normal ?_
      refine then_normal ?_
      first
        | exact ⟨_, er, E2, .inr (.inl ⟨by omega, by omega, rfl⟩), hE2, S.sub _ rfl, (M.drop 2).drop 2⟩
        | (obtain ⟨lo, hi, M2⟩ := nilTol ((M.drop 5).drop 5)
           obtain ⟨E1, hE1, M3⟩ := Dsk.close (b := bB) (D := ⟨s, Tol.none, zOf⟩) rl ro ⟨none, 0, lo, hi⟩ ⟨none, 0, lo, hi⟩ ⟨none, 0, lo, hi⟩ ⟨none, 0, lo, hi⟩ ⟨none, 0, lo, hi⟩ (M2.perm (List.perm_append_comm_assoc (tolE Tol.none _ _ _ _ _) [_, _, _] _))
           first
             | exact ⟨_, er, E1, .inl ⟨by omega, by omega, rfl⟩, hE1, S.sub _ rfl, M3⟩
             | exact ⟨_, 121, E1, .inr (.inr ⟨⟨by omega, by omega⟩, rfl, rfl⟩), hE1, S.sub _ rfl, M3⟩)
    clear S; intro h48 S
    refine st_condT S rfl ?_
    refine wp_region_lit ?_
    refine st_run [1, 1, 1, 1, 1, 1, 1] S M rfl (by kernel_rfl) ?_; clear S a; intro a S
    refine st_y S rfl rfl rfl (y_indexR (e := 65) (sz := 37) S (by kernel_rfl) rfl (M.readAll 1 rfl (by unfold maxLen; omega)) rfl (by first | omega | (simp; done) | (simp; omega))) ?_; clear S a; intro a S
    try simp only [Int.toNat_natCast, Nat.mul_one, Nat.zero_add] at S
    refine st_y S rfl rfl rfl (y_loadAgg S (by kernel_rfl) rfl rfl ((M.readAll 1 rfl (by unfold maxLen; omega)).at_.row (i := i) (fm_get len_ope hio) rfl)) ?_; clear S a; intro a S
    obtain ⟨lo, hi, M2⟩ := nilTol M
    obtain ⟨E1, hE1, M3⟩ := Dsk.close (b := bB) (D := ⟨s, Tol.none, zOf⟩) rl ro ⟨none, 0, lo, hi⟩ ⟨none, 0, lo, hi⟩ ⟨none, 0, lo, hi⟩ ⟨none, 0, lo, hi⟩ ⟨none, 0, lo, hi⟩ (M2.perm (List.perm_append_comm_assoc (tolE Tol.none _ _ _ _ _) [_, _, _] _))
    clear M; have M := M3; clear M2 M3
    refine st_call (xs := [(Operand.tmp 50), (Operand.tmp 58), (Operand.const (Value.int IntKind.i64 0))]) S (enters_of Try.func25 (by decide) rfl) rfl rfl rfl (refuse_any (A := _ :: _ :: _ :: _ :: A) o 0 hE1 M hty.small) ?_
    rintro _ w16 ⟨rfl, E2, hE2, M1⟩; refine ⟨_, rfl, ?_⟩; clear S M a; intro a S; have M := M1; clear M1
    refine wpList_nil ?_
    refine block_normal ?_
    refine then_normal ?_
    first
      | exact ⟨_, er, E2, .inr (.inl ⟨by omega, by omega, rfl⟩), hE2, S.sub _ rfl, (M.drop 2).drop 2⟩
      | (obtain ⟨lo, hi, M2⟩ := nilTol ((M.drop 5).drop 5)
         obtain ⟨E1, hE1, M3⟩ := Dsk.close (b := bB) (D := ⟨s, Tol.none, zOf⟩) rl ro ⟨none, 0, lo, hi⟩ ⟨none, 0, lo, hi⟩ ⟨none, 0, lo, hi⟩ ⟨none, 0, lo, hi⟩ ⟨none, 0, lo, hi⟩ (M2.perm (List.perm_append_comm_assoc (tolE Tol.none _ _ _ _ _) [_, _, _] _))
         first
           | exact ⟨_, er, E1, .inl ⟨by omega, by omega, rfl⟩, hE1, S.sub _ rfl, M3⟩
           | exact ⟨_, 121, E1, .inr (.inr ⟨⟨by omega, by omega⟩, rfl, rfl⟩), hE1, S.sub _ rfl, M3⟩)
  clear S a M; intro a wc
  rintro ⟨D1, e9, E1, hD1, hE1, S, M⟩
  have hpl := refuseP_len o 0 4
  have hmid : D1.mid := by
    rcases hD1 with ⟨-, -, rfl⟩ | ⟨-, -, rfl⟩ | ⟨-, -, rfl⟩
    · exact hty.mid
    · exact ⟨hty.mid.l, hty.mid.over, by show ([] ++ refuseP o 0 4).length ≤ 900; rw [List.nil_append]; omega, hty.mid.ans, hty.mid.seen, hty.mid.com, hty.mid.ends⟩
    · exact hty.mid
  have hio1 : D1.s.l[i]? = some o := by
    rcases hD1 with ⟨-, -, rfl⟩ | ⟨-, -, rfl⟩ | ⟨-, -, rfl⟩ <;> exact hio
  refine nxD ?_
  refine st_go [1, 1] S rfl (by kernel_rfl) ?_; clear S a; intro a S
  refine st_call (xs := [(Operand.tmp 60), (Operand.tmp 61), (Operand.const (Value.int IntKind.i8 3))]) S (enters_of Try.func24 (by decide) rfl) rfl rfl rfl (ending_any (A := _ :: _ :: A) i o 3 hE1 M hmid hio1) ?_
  rintro _ w17 ⟨b3, b4, b5, b7, rfl, E5, hE5, M1⟩; refine ⟨_, rfl, ?_⟩; clear S M a; intro a S; have M := M1; clear M1
  refine st_go [1, 1] S rfl (by kernel_rfl) ?_; clear S a; intro a S
  refine st_callB (xs := [(Operand.tmp 63), (Operand.tmp 64), (Operand.const (Value.bool true))]) (fi := []) (ca := [.pointer (some ⟨b3, 0, none⟩), .pointer (some ⟨b7, 0, none⟩), .pointer (some ⟨b4, 0, none⟩), .pointer (some ⟨b5, 0, none⟩)]) S (enters_of Try.func48 (by decide) rfl) rfl rfl (rfl) rfl (ending1_any (A := _ :: _ :: A) i o 3 e9 e9 true hE5 M hmid (List.getElem?_eq_some_iff.1 hio1).1) ?_
  rintro _ w18 ⟨rfl, E6, hE6, M1⟩; refine ⟨_, rfl, ?_⟩; clear S M a; intro a S; have M := M1; clear M1
  refine nxC ?_
  refine wp_seq ?_
  have hEnd : EndR s n er (D1.ended i o 3 e9 e9 true).s (D1.ended i o 3 e9 e9 true).t := by
    refine ⟨i, o, _, hio, Nm.eqb_iff.1 hnm, hph, rfl, rfl, ?_⟩
    rcases hD1 with ⟨h1, rfl, rfl⟩ | ⟨h1, rfl, rfl⟩ | ⟨h1, rfl, rfl⟩
    · exact .inl ⟨h1, rfl⟩
    · exact .inr (.inl ⟨h1, rfl⟩)
    · exact .inr (.inr ⟨h1, rfl⟩)
  obtain ⟨D', hD'⟩ : ∃ D', D1.ended i o 3 e9 e9 true = D' := ⟨_, rfl⟩
  rw [hD'] at hEnd hE6
  obtain ⟨rl2, ro2, rm2, ra2, rs2, rc2, re2, M1⟩ := Dsk.open (A := _ :: _ :: A) hE6 M
  clear M; have M := M1; clear M1
  refine wp_regionKC (C := fun W => CellsAt W bB 4 (tolL D'.t rm2 ra2 rs2 rc2 re2)) [8, 9] #[false, false, false, false, false, false, false, false, false, false, false] rfl M (by kernel_rfl) ?_; clear M; intro w19 M; have hC := M.cellsAt (o := 4) (k := 5) 0 rfl rfl
  refine kc_readC (listed' := #[true, false, false, false, false, false, false, false, false, false, false]) 0 S rfl rfl rfl rfl (by kernel_rfl) rfl (fun _ d _ _ _ h => by cases d <;> exact h) hC (fun w _ => y_move S rfl) ?_; clear S a; intro a S
  refine kc_readC (listed' := #[true, true, false, false, false, false, false, false, false, false, false]) 1 S rfl rfl rfl rfl (by kernel_rfl) rfl (fun _ d _ _ _ h => by cases d <;> exact h) hC (fun w _ => y_nilCheck S rfl) ?_; clear S a; intro a S
  refine kc_readC (listed' := #[true, true, true, false, false, false, false, false, false, false, false]) 2 S rfl rfl rfl rfl (by kernel_rfl) rfl (fun _ d _ _ _ h => by cases d <;> exact h) hC (fun w _ => y_fieldAddr (k := 0) S (by kernel_rfl) rfl) ?_; clear S a; intro a S
  refine kc_read (listed' := #[true, true, true, true, false, false, false, false, false, false, false]) 3 S rfl rfl rfl rfl (by kernel_rfl) rfl (fun _ d _ _ _ h => by cases d <;> exact h) hC (fun w hW => have M := M.grow hW; y_loadAgg (cs := [_, _, _, _]) S (by kernel_rfl) rfl rfl (M.cellsAt (k := 4) 0 rfl rfl)) ?_; clear S a; intro a S
  refine kc_readC (listed' := #[true, true, true, true, true, false, false, false, false, false, false]) 4 S rfl rfl rfl rfl (by kernel_rfl) rfl (fun _ d _ _ _ h => by cases d <;> exact h) hC (fun w _ => y_move S rfl) ?_; clear S a; intro a S
  refine kc_readC (listed' := #[true, true, true, true, true, true, false, false, false, false, false]) 5 S rfl rfl rfl rfl (by kernel_rfl) rfl (fun _ d _ _ _ h => by cases d <;> exact h) hC (fun w _ => y_nilCheck S rfl) ?_; clear S a; intro a S
  refine kc_readC (listed' := #[true, true, true, true, true, true, true, false, false, false, false]) 6 S rfl rfl rfl rfl (by kernel_rfl) rfl (fun _ d _ _ _ h => by cases d <;> exact h) hC (fun w _ => y_fieldAddr (k := 4) S (by kernel_rfl) rfl) ?_; clear S a; intro a S
  refine kc_readC (listed' := #[true, true, true, true, true, true, true, true, false, false, false]) 7 S rfl rfl rfl rfl (by kernel_rfl) rfl (fun _ d _ _ _ h => by cases d <;> exact h) hC (fun w hC => y_loadAgg (cs := [_, _, _, _, _]) S (by kernel_rfl) rfl rfl (hC)) ?_; clear S a; intro a S
  refine kc_one (listed' := #[true, true, true, true, true, true, true, true, true, false, false]) 8 rfl (by kernel_rfl) rfl ?_
  refine st_store (sz := 4) (us := [_, _, _, _]) S M 9 rfl (by kernel_rfl) rfl rfl rfl rfl rfl rfl (by first | decide | (simp; done) | (simp; omega)) ?_; clear M; intro w20 M
  simp only [putL, List.set_cons_zero, List.set_cons_succ, Nat.reduceAdd] at M
  replace hC := M.cellsAt (o := 4) (k := 5) 0 rfl rfl
  refine wpList_nil ?_; refine then_normal ?_; refine ⟨fun h => absurd h (by decide), hC, ?_⟩
  refine kc_one (listed' := #[true, true, true, true, true, true, true, true, true, true, false]) 9 rfl (by kernel_rfl) rfl ?_
  refine st_store (sz := 5) (us := [_, _, _, _, _]) S M 8 rfl (by kernel_rfl) rfl rfl rfl rfl rfl rfl (by first | decide | (simp; done) | (simp; omega)) ?_; clear M; intro w21 M
  simp only [putL, List.set_cons_zero, List.set_cons_succ, Nat.reduceAdd] at M
  replace hC := M.cellsAt (o := 4) (k := 5) 0 rfl rfl
  refine wpList_nil ?_; refine then_normal ?_; refine ⟨fun h => absurd h (by decide), hC, ?_⟩
  refine kc_readC (listed' := #[true, true, true, true, true, true, true, true, true, true, true]) 10 S rfl rfl rfl rfl (by kernel_rfl) rfl (fun _ d _ _ _ h => by cases d <;> exact h) hC (fun w _ => y_assign S rfl) ?_; clear S a; intro a S
  refine kc_end (by kernel_rfl) ?_
  replace S := S.sub [(2, _), (6, _), (7, _), (10, _), (11, _), (8, _)] rfl
  refine then_normal ?_
  refine wp_ret ?_
  refine end_three S rfl (res_agg (cs := [_, _, _, _]) (by kernel_rfl) rfl rfl (M.cellsAt (k := 4) 9 rfl rfl)) (res_agg (cs := [_, _, _, _, _]) (by kernel_rfl) rfl rfl (M.cellsAt (k := 5) 8 rfl rfl)) (res_tmp rfl) ?_
  refine ⟨D'.s, D'.t, 0, rl2, ro2, rm2, ra2, rs2, rc2, re2, rfl, ?_, fun _ => ⟨hm, hEnd⟩⟩
  exact ((M.drop 0).drop 7).drop 7
end Go.Proofs.Ytniijiipkfhjgaa

