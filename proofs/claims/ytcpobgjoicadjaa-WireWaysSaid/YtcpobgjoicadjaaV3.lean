/-
  The second walk: operations that look into memory, make or write it; calls; regions; the end.
-/
import Derived.Test.YtcpobgjoicadjaaV2
namespace Go.Proofs.Ytcpobgjoicadjaa
open Go.RowKit Go.Sort

variable {P : Program} {ops : Array Oper} {Q : Exit → Act → World → Prop} {rest : List Oper} {n d : Nat} {a : Act} {L : List (Nat × Value)} {w w0 : World} {v : Value} {o : Oper} {H : List Ent}

/-- where a field lies -/
def fieldOff (P : Program) (s f : Nat) : Option Nat :=
  match P.underlying s with
  | some (.struct fs) => match fs[f]? with
    | some fl => match P.info? fl.type with
      | some i => if i.size = 0 then none else some fl.offset
      | none => none
    | none => none
  | _ => none

theorem addr_add (b o k : Nat) : (⟨b, o, none⟩ : Addr).add k = ⟨b, o + k, none⟩ := by
  unfold Addr.add; split
  · rename_i h; subst h; rfl
  · rfl

theorem y_fieldAddr {x : Operand} {b o k s f : Nat} (S : Sees n a L) (hF : fieldOff P s f = some k) (hx : val L x = some (.pointer (some ⟨b, o, none⟩))) {d : Option Tmp} {t : TypeId} {p : String} {e : Array Edge} {g : Option (Nat × Bool)} :
    Yields P a ⟨d, .fieldAddr s x f, t, p, e, g⟩ w (.pointer (some ⟨b, o + k, none⟩)) := by
  unfold fieldOff at hF
  cases hu : P.underlying s with
  | none => simp [hu] at hF
  | some td =>
    rw [hu] at hF
    cases td <;> simp only [reduceCtorEq] at hF
    rename_i fs
    cases hf : fs[f]? with
    | none => simp [hf] at hF
    | some fl =>
      simp only [hf] at hF
      cases hi : P.info? fl.type with
      | none => simp [hi] at hF
      | some i =>
        simp only [hi] at hF
        split at hF
        · cases hF
        · rename_i hz
          cases hF
          unfold Yields execOp
          simp only [S.eval hx]
          simp [Instr.fieldAt, underlying, hu, hf, Instr.sureAddr, fieldPlace, sizeOf, typeInfo, hi, hz, addr_add, go_sem]

/-- a slice type's element, and how many cells it has -/
def sliceElem (P : Program) (t : TypeId) : Option (TypeId × Nat) :=
  match P.underlying t with
  | some (.slice e) => match P.info? e with
    | some i => some (e, i.size)
    | none => none
  | _ => none
theorem sliceElem_spec {t e sz : Nat} (h : sliceElem P t = some (e, sz)) : P.underlying t = some (.slice e) ∧ ∃ i, P.info? e = some i ∧ i.size = sz := by
  unfold sliceElem at h
  cases hu : P.underlying t with
  | none => simp [hu] at h
  | some td =>
    rw [hu] at h
    cases td <;> simp only [reduceCtorEq] at h
    rename_i e'
    cases hi : P.info? e' with
    | none => simp [hi] at h
    | some i => simp [hi] at h; obtain ⟨rfl, rfl⟩ := h; exact ⟨rfl, i, hi, rfl⟩

theorem y_indexS {x ix : Operand} {b o l c t e sz : Nat} {k : IntKind} {i : Int} (S : Sees n a L) (hE : sliceElem P t = some (e, sz)) (hx : val L x = some (.slice (some ⟨b, o, none⟩) l c)) (hi : val L ix = some (.int k i)) (h : 0 ≤ i ∧ i < l)
    {d : Option Tmp} {ty : TypeId} {p : String} {ed : Array Edge} {g : Option (Nat × Bool)} : Yields P a ⟨d, .indexAddr t x ix, ty, p, ed, g⟩ w (.pointer (some ⟨b, o + i.toNat * sz, none⟩)) := by
  obtain ⟨hu, inf, hinf, rfl⟩ := sliceElem_spec hE
  unfold Yields execOp
  simp only [S.eval hx, S.eval hi]
  simp [Instr.indexAt, asIntOf, underlying, hu, sizeOf, typeInfo, hinf, h, addr_add, go_sem]

/-- an array type's length, and how many cells an element has -/
def arrayElem (P : Program) (t : TypeId) : Option (Nat × Nat) :=
  match P.underlying t with
  | some (.array m e) => match P.info? e with
    | some i => some (m, i.size)
    | none => none
  | _ => none
theorem arrayElem_spec {t m sz : Nat} (h : arrayElem P t = some (m, sz)) : ∃ e, P.underlying t = some (.array m e) ∧ ∃ i, P.info? e = some i ∧ i.size = sz := by
  unfold arrayElem at h
  cases hu : P.underlying t with
  | none => simp [hu] at h
  | some td =>
    rw [hu] at h
    cases td <;> simp only [reduceCtorEq] at h
    rename_i m' e'
    cases hi : P.info? e' with
    | none => simp [hi] at h
    | some i => simp [hi] at h; obtain ⟨rfl, rfl⟩ := h; exact ⟨e', rfl, i, hi, rfl⟩
theorem y_indexA {x ix : Operand} {b o t m sz : Nat} {k : IntKind} {i : Int} (S : Sees n a L) (hE : arrayElem P t = some (m, sz)) (hx : val L x = some (.pointer (some ⟨b, o, none⟩))) (hi : val L ix = some (.int k i)) (h : 0 ≤ i ∧ i < m)
    {d : Option Tmp} {ty : TypeId} {p : String} {ed : Array Edge} {g : Option (Nat × Bool)} : Yields P a ⟨d, .indexAddr t x ix, ty, p, ed, g⟩ w (.pointer (some ⟨b, o + i.toNat * sz, none⟩)) := by
  obtain ⟨e, hu, inf, hinf, rfl⟩ := arrayElem_spec hE
  unfold Yields execOp
  simp only [S.eval hx, S.eval hi]
  simp [Instr.indexAt, asIntOf, underlying, hu, sizeOf, typeInfo, hinf, h, Instr.sureAddr, addr_add, go_sem]

/-- a type of one cell: no struct, no array -/
def plainB (P : Program) (t : TypeId) : Bool :=
  match P.underlying t with
  | some (.struct _) | some (.array _ _) | none => false
  | _ => true
theorem run_isAgg_plain {t : TypeId} (h : plainB P t = true) : (isAgg t).run P w = .ok false w := by
  unfold plainB at h
  cases hu : P.underlying t with
  | none => simp [hu] at h
  | some td => rw [hu] at h; cases td <;> simp_all [isAgg, underlying, go_sem]
theorem y_load {x : Operand} {b o t : Nat} (S : Sees n a L) (hT : plainB P t = true) (hx : val L x = some (.pointer (some ⟨b, o, none⟩))) (hc : w.cell? ⟨b, o, none⟩ = some v)
    {d : Option Tmp} {ty : TypeId} {p : String} {ed : Array Edge} {g : Option (Nat × Bool)} : Yields P a ⟨d, .load t x, ty, p, ed, g⟩ w v := by
  unfold Yields execOp
  simp only [S.eval hx]
  simp only [Instr.loadAt, Instr.sureAddr, loadVar, Sem.run_bind, Sem.run_pure, Result.andThen_ok, run_isAgg_plain hT]
  simp [load, hc, Sem.run, go_sem]

/-- how many cells a struct or an array has -/
def aggB (P : Program) (t : TypeId) : Option Nat :=
  match P.underlying t with
  | some (.struct _) | some (.array _ _) => match P.info? t with
    | some i => some i.size
    | none => none
  | _ => none
theorem aggB_spec {t k : Nat} (h : aggB P t = some k) : (∀ w, (isAgg t).run P w = .ok true w) ∧ ∃ i, P.info? t = some i ∧ i.size = k := by
  unfold aggB at h
  cases hu : P.underlying t with
  | none => simp [hu] at h
  | some td =>
    rw [hu] at h
    cases td <;> simp only [reduceCtorEq] at h
    all_goals
      cases hi : P.info? t with
      | none => simp [hi] at h
      | some i => simp [hi] at h; exact ⟨fun w => by simp [isAgg, underlying, hu, go_sem], i, rfl, h⟩

theorem run_sizeOf {T : TypeId} {i : TypeInfo} (hi : P.info? T = some i) : (sizeOf T).run P w = .ok i.size w := by simp [sizeOf, typeInfo, hi, go_sem]

theorem loadCellsFrom_run {b o : Nat} : ∀ (cs : List Value) (i : Nat) (acc : Array Value), (∀ j, j < cs.length → w.cell? ⟨b, o + (i + j), none⟩ = cs[j]?) →
    (loadCellsFrom ⟨b, o, none⟩ i cs.length acc).run P w = .ok (acc ++ cs.toArray) w
  | [], i, acc, _ => by simp [loadCellsFrom, Sem.run_pure]
  | c :: cs, i, acc, h => by
    have h0 := h 0 (by simp)
    simp only [Nat.add_zero, List.getElem?_cons_zero] at h0
    have ih := loadCellsFrom_run cs (i + 1) (acc.push c) (fun j hj => by have := h (j + 1) (by simp; omega); rw [show o + (i + (j + 1)) = o + (i + 1 + j) by omega] at this; simpa using this)
    simp only [List.length_cons, loadCellsFrom, addr_add, Sem.run_bind]
    rw [show (load ⟨b, o + i, none⟩).run P w = .ok c w by simp [load, Sem.run, h0]]
    simp only [Result.andThen_ok]
    rw [ih]
    simp

/-- the cells from o on -/
def CellsAt (w : World) (b o : Nat) (cs : List Value) : Prop := ∀ j, j < cs.length → w.cell? ⟨b, o + j, none⟩ = cs[j]?

theorem y_loadAgg {x : Operand} {b o t k : Nat} {cs : List Value} (S : Sees n a L) (hT : aggB P t = some k) (hx : val L x = some (.pointer (some ⟨b, o, none⟩))) (hk : cs.length = k) (hc : CellsAt w b o cs)
    {d : Option Tmp} {ty : TypeId} {p : String} {ed : Array Edge} {g : Option (Nat × Bool)} : Yields P a ⟨d, .load t x, ty, p, ed, g⟩ w (.agg cs.toArray) := by
  obtain ⟨h1, i, hi, hs⟩ := aggB_spec hT
  have hl := loadCellsFrom_run (P := P) (w := w) (b := b) (o := o) cs 0 #[] (fun j hj => by rw [Nat.zero_add]; exact hc j hj)
  unfold Yields execOp
  simp only [S.eval hx]
  rw [hk] at hl
  simp only [Instr.loadAt, Instr.sureAddr, loadVar, Sem.run_bind, Sem.run_pure, Result.andThen_ok, h1, if_true, run_sizeOf hi, hs, loadCells, hl]
  simp

/-- cut out k cells from o on -/
def cutL : List Value → Nat → Nat → Option (List Value)
  | _, 0, 0 => some []
  | c :: l, 0, k + 1 => (cutL l 0 k).map (c :: ·)
  | _ :: l, o + 1, k => cutL l o k
  | [], _, _ => none

theorem cutL_spec : ∀ (l : List Value) (o k : Nat) (cs : List Value), cutL l o k = some cs → cs.length = k ∧ ∀ j, j < k → cs[j]? = l[o + j]?
  | l, 0, 0, cs, h => by cases l <;> simp [cutL] at h <;> subst h <;> simp
  | [], 0, k + 1, cs, h => by simp [cutL] at h
  | c :: l, 0, k + 1, cs, h => by
    simp only [cutL, Option.map_eq_some_iff] at h
    obtain ⟨r, hr, rfl⟩ := h
    obtain ⟨h1, h2⟩ := cutL_spec l 0 k r hr
    refine ⟨by simp [h1], fun j hj => ?_⟩
    cases j with
    | zero => simp
    | succ j => have := h2 j (by omega); simp only [Nat.zero_add] at this ⊢; simpa using this
  | c :: l, o + 1, k, cs, h => by
    simp only [cutL] at h
    obtain ⟨h1, h2⟩ := cutL_spec l o k cs h
    refine ⟨h1, fun j hj => ?_⟩
    rw [h2 j hj, show o + 1 + j = (o + j) + 1 by omega]; simp
  | [], o + 1, k, cs, h => by simp [cutL] at h

theorem Blk.cellsAt {b o k : Nat} {c : Array Value} {t : TypeId} {cs : List Value} (B : Blk w b c t) (h : cutL c.toList o k = some cs) : CellsAt w b o cs := fun j hj => by
  obtain ⟨h1, h2⟩ := cutL_spec _ _ _ _ h
  rw [B.cells, h2 j (by omega)]; simp

/-- a load out of an own block -/
theorem Mem.cell {b i : Nat} {c : Array Value} {t : TypeId} (M : Mem w0 w H) (p : Nat) (h : H[p]? = some (.blk b c t)) (hc : c[i]? = some v) : w.cell? ⟨b, i, none⟩ = some v := by rw [(M.blk p h).cells]; exact hc
theorem Mem.cellsAt {b o k : Nat} {c : Array Value} {t : TypeId} {cs : List Value} (M : Mem w0 w H) (p : Nat) (h : H[p]? = some (.blk b c t)) (hc : cutL c.toList o k = some cs) : CellsAt w b o cs := (M.blk p h).cellsAt hc

/-! ### new memory -/
theorem run_newVar (t : TypeId) (u : Value) : (newVar t u).run P w = .ok ⟨w.heap.size, 0, none⟩ (w.alloc (.cells u.cells t)) := by
  simp [newVar, newRow, go_sem]

theorem st_box {x : Operand} {T : TypeId} {u : Value} (S : Sees n a L) (M : Mem w0 w H) {d : Nat} {t : TypeId} {p : String} {e : Array Edge} {g : Option (Nat × Bool)} (hg : gd ops L ⟨some d, .box T x, t, p, e, g⟩ = some true) (hn : Nat.blt d n = true) (hx : val L x = some u) (c : Array Value) (hc : u.cells = c)
    (k : ∀ a w' b, Sees n a ((d, .pointer (some ⟨b, 0, none⟩)) :: L) → Mem w0 w' (.blk b c T :: H) → Below w.heap.size w w' → wpList P ops Q rest a w') : wpList P ops Q (⟨some d, .box T x, t, p, e, g⟩ :: rest) a w := by
  subst hc
  refine st_w (v := .pointer (some ⟨w.heap.size, 0, none⟩)) (w' := w.alloc (.cells u.cells T)) S hg rfl hn ?_ fun a S' => k a _ w.heap.size S' (M.alloc _ _) (ext_alloc (ext_refl _) _)
  unfold execOp
  simp only [S.eval hx, Instr.box, Sem.run_bind, run_newVar, Result.andThen_ok, Sem.run_pure]

/-- a type's zero cells -/
def zeroC (P : Program) (t : TypeId) : Option (Array Value) :=
  match P.info? t with
  | some i => i.zero.map Value.cells
  | none => none
theorem st_alloc {T : TypeId} (S : Sees n a L) (M : Mem w0 w H) {d : Nat} {t : TypeId} {p : String} {e : Array Edge} {g : Option (Nat × Bool)} (hg : gd ops L ⟨some d, .alloc T, t, p, e, g⟩ = some true) (hn : Nat.blt d n = true) (c : Array Value) (hc : zeroC P T = some c)
    (k : ∀ a w' b, Sees n a ((d, .pointer (some ⟨b, 0, none⟩)) :: L) → Mem w0 w' (.blk b c T :: H) → Below w.heap.size w w' → wpList P ops Q rest a w') : wpList P ops Q (⟨some d, .alloc T, t, p, e, g⟩ :: rest) a w := by
  refine st_w (v := .pointer (some ⟨w.heap.size, 0, none⟩)) (w' := w.alloc (.cells c T)) S hg rfl hn ?_ fun a S' => k a _ w.heap.size S' (M.alloc _ _) (ext_alloc (ext_refl _) _)
  unfold zeroC at hc
  cases hi : P.info? T with
  | none => simp [hi] at hc
  | some i =>
    simp only [hi, Option.map_eq_some_iff] at hc
    obtain ⟨z, hz, rfl⟩ := hc
    unfold execOp
    simp [Instr.alloc, zeroValue, typeInfo, hi, hz, Sem.run_bind, run_newVar, go_sem]

/-! ### stores -/
def oneB : Value → Bool
  | .agg _ | .tuple _ => false
  | _ => true
theorem run_store {b o : Nat} {u : Value} (h1 : oneB u = true) (hc : ∃ x, w.cell? ⟨b, o, none⟩ = some x) (hf : w.frozen? ⟨b, o, none⟩ = false) {β : Type} (k : Sem β) :
    (Sem.store .plain ⟨b, o, none⟩ u k).run P w = k.run P (w.setCell ⟨b, o, none⟩ u) := by
  obtain ⟨x, hx⟩ := hc
  cases u <;> simp_all [Sem.run, oneB]

/-- write cells from o on -/
def putL : List Value → Nat → List Value → List Value
  | l, _, [] => l
  | l, o, u :: us => putL (l.set o u) (o + 1) us
def allOne : List Value → Bool
  | [] => true
  | u :: us => oneB u && allOne us

theorem putL_length : ∀ (us : List Value) (l : List Value) (o : Nat), (putL l o us).length = l.length
  | [], l, o => rfl
  | u :: us, l, o => by rw [putL, putL_length us]; simp
theorem storeCells_run {b o : Nat} {T : TypeId} : ∀ (us : List Value) (i : Nat) (l : List Value) (w : World) (H : List Ent) (pos : Nat), Mem w0 w H → H[pos]? = some (.blk b l.toArray T) → allOne us = true → o + i + us.length ≤ l.length →
    ∃ w', (storeCells ⟨b, o, none⟩ us i).run P w = .ok () w' ∧ Mem w0 w' (H.set pos (.blk b (putL l (o + i) us).toArray T))
  | [], i, l, w, H, pos, M, hp, _, _ => ⟨w, by simp [storeCells, Sem.run_pure], by
      rw [show H.set pos (.blk b (putL l (o + i) []).toArray T) = H from ?_]
      · exact M
      · obtain ⟨h1, h2⟩ := List.getElem?_eq_some_iff.1 hp
        show H.set pos (.blk b l.toArray T) = H
        rw [← h2, List.set_getElem_self]⟩
  | u :: us, i, l, w, H, pos, M, hp, h1, hle => by
    simp only [allOne, Bool.and_eq_true] at h1
    simp only [List.length_cons] at hle
    have B := M.blk pos hp
    have hlt : pos < H.length := (List.getElem?_eq_some_iff.1 hp).1
    have hcell : ∃ x, w.cell? ⟨b, o + i, none⟩ = some x := ⟨l[o + i]'(by omega), by rw [B.cells]; simp⟩
    have M1 := M.setCell pos hp (o + i) u
    obtain ⟨w', hr, M2⟩ := storeCells_run (b := b) (o := o) (T := T) us (i + 1) (l.set (o + i) u) (w.setCell ⟨b, o + i, none⟩ u) (H.set pos (.blk b (l.toArray.setIfInBounds (o + i) u) T)) pos M1 (by simp [hlt]) h1.2 (by simp; omega)
    refine ⟨w', ?_, ?_⟩
    · simp only [storeCells, addr_add, Sem.run_bind]
      rw [show (store ⟨b, o + i, none⟩ u).run P w = .ok () (w.setCell ⟨b, o + i, none⟩ u) from run_store h1.1 hcell (B.frz _) _]
      exact hr
    · simpa [putL, Nat.add_assoc] using M2

theorem st_store {x y : Operand} {T : TypeId} {u : Value} {b o sz : Nat} {l us : List Value} {BT : TypeId} (S : Sees n a L) (M : Mem w0 w H) (pos : Nat) {t : TypeId} {p : String} {e : Array Edge} {g : Option (Nat × Bool)} (hg : gd ops L ⟨none, .store T x y, t, p, e, g⟩ = some true)
    (hT : (P.info? T).map (·.size) = some sz) (hx : val L x = some (.pointer (some ⟨b, o, none⟩))) (hy : val L y = some u) (hu : u.cells.toList = us) (hsz : us.length = sz) (h1 : allOne us = true) (hp : H[pos]? = some (.blk b l.toArray BT)) (hle : o + us.length ≤ l.length)
    (k : ∀ w, Mem w0 w (H.set pos (.blk b (putL l o us).toArray BT)) → wpList P ops Q rest a w) : wpList P ops Q (⟨none, .store T x y, t, p, e, g⟩ :: rest) a w := by
  obtain ⟨w', hr, M'⟩ := storeCells_run (P := P) us 0 l w H pos M hp h1 (by omega)
  refine st_s (w' := w') S hg rfl ?_ (k w' M')
  cases hi : P.info? T with
  | none => simp [hi] at hT
  | some inf =>
    have hs : inf.size = sz := by simpa [hi] using hT
    have hs' : u.cells.size = inf.size := by rw [hs, ← hsz, ← hu]; simp
    unfold execOp
    simp only [S.eval hx, S.eval hy, Instr.storeAt, Instr.sureAddr, storeVar, Sem.run_bind, Sem.run_pure, Result.andThen_ok, run_sizeOf hi, hs', ne_eq, not_true, if_false, hu, hr]

/-! ### calls -/
/-- a call of f goes into its body -/
def Enters (P : Program) (f : FuncId) : Prop := ∀ (args : Array Value) (w : World), (callFunc f args).run P w = .ok (.enter f args) w
theorem enters_of {f : FuncId} {fn : Func} (hf : P.funcs[f]? = some fn) (h1 : (fn.name == "runtime.NumGoroutine") = false) (h2 : fn.body.isNone = false) : Enters P f := fun args w => by
  show (Sem.run P (match P.funcs[f]? with | none => _ | some fn => _) w) = _
  rw [hf]
  simp only [h1, h2, Bool.false_eq_true, if_false]
  rfl

theorem run_call {f : FuncId} {xs : List Operand} {vs : List Value} (hE : Enters P f) (S : Sees n a L) (hx : vals L xs = some vs) {d : Option Tmp} {ts : Array TypeId} {t : TypeId} {p : String} {e : Array Edge} {g : Option (Nat × Bool)} :
    (execOp a.eval ⟨d, .call { callee := .value (.func f), args := xs.toArray, argTypes := ts }, t, p, e, g⟩).run P w = .ok (.enter f vs.toArray) w := by
  have h : xs.toArray.map a.eval = vs.toArray := by rw [← S.evals hx]; simp
  unfold execOp
  simp only [resolve, h, Act.eval, Deferred.ofValue, Sem.run_bind, Sem.run_pure, Result.andThen_ok, invoke, Array.append_empty, Array.empty_append]
  exact hE _ _

theorem st_call {f : FuncId} {xs : List Operand} {vs : List Value} {R : Ending → World → Prop} (S : Sees n a L) {d : Nat} {ts : Array TypeId} {t : TypeId} {p : String} {e : Array Edge} {g : Option (Nat × Bool)}
    (hE : Enters P f) (hg : gd ops L ⟨some d, .call { callee := .value (.func f), args := xs.toArray, argTypes := ts }, t, p, e, g⟩ = some true) (hn : Nat.blt d n = true) (hx : vals L xs = some vs) (hC : Calls P f vs.toArray w R)
    (k : ∀ e w', R e w' → ∃ v, e = .returned v ∧ ∀ a, Sees n a ((d, v) :: L) → wpList P ops Q rest a w') : wpList P ops Q (⟨some d, .call { callee := .value (.func f), args := xs.toArray, argTypes := ts }, t, p, e, g⟩ :: rest) a w := by
  unfold wpList
  rw [if_pos (gd_spec S hg)]
  refine .inl ?_
  unfold Oper.wp
  rw [run_call hE S hx, Oper.upon_enter]
  refine hC.mono fun e w' hR => ?_
  obtain ⟨v, rfl, hk⟩ := k e w' hR
  exact hk _ (S.put hn v)

/-! ### regions, control, the end -/
theorem then_normal {next : Act → World → Prop} (h : next a w) : Exit.then next Q .normal a w := h
theorem then_exit {next : Act → World → Prop} {i : Nat} (h : Q (.exit i) a w) : Exit.then next Q (.exit i) a w := h
theorem then_ret {next : Act → World → Prop} (h : Q .ret a w) : Exit.then next Q .ret a w := h
theorem block_normal {i : Nat} (h : Q .normal a w) : Exit.inBlock i Q .normal a w := h
theorem block_ret {i : Nat} (h : Q .ret a w) : Exit.inBlock i Q .ret a w := h
theorem block_hit {i : Nat} (h : Q .normal a w) : Exit.inBlock i Q (.exit i) a w := by simp only [Exit.inBlock, if_true]; exact h
theorem block_miss {i j : Nat} (hne : Nat.beq j i = false) (h : Q (.exit j) a w) : Exit.inBlock i Q (.exit j) a w := by
  simp only [Exit.inBlock]; rw [if_neg (Nat.ne_of_beq_eq_false hne)]; exact h
/-- two ways meet -/
theorem wp_cut {x y : Code} (I : Act → World → Prop) (h1 : x.wp P (Exit.then I Q) a w) (h2 : ∀ a w, I a w → y.wp P Q a w) : (Code.seq x y).wp P Q a w :=
  wp_seq (wp_mono h1 fun e a w h => by cases e <;> first | exact h2 a w h | exact h)

def resVals (L : List (Nat × Value)) (rs : List Nat) : Option (List Value) := vals L (rs.map .tmp)
theorem end_ret1 {fn : Func} {R : Ending → World → Prop} {t : Nat} (S : Sees n a L) (hr : fn.results = #[.tmp t]) (hv : look L t = some v) (h : R (.returned v) w) : bodyPost P fn R .ret a w := by
  refine bodyPost_ret (results_tmp hr _ _ _) S.defers ?_
  rw [S.at_ t v hv (S.lt t v hv)]; exact h
theorem end_ret2 {fn : Func} {R : Ending → World → Prop} {t u : Nat} {v' : Value} (S : Sees n a L) (hr : fn.results = #[.tmp t, .tmp u]) (hv : look L t = some v) (hv' : look L u = some v') (h : R (.returned (.tuple #[v, v'])) w) : bodyPost P fn R .ret a w := by
  refine bodyPost_ret (results_tmp2 hr _ _ _) S.defers ?_
  rw [S.at_ t v hv (S.lt t v hv), S.at_ u v' hv' (S.lt u v' hv')]; exact h

end Go.Proofs.Ytcpobgjoicadjaa
