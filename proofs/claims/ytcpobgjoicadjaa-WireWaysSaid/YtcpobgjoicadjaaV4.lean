/-
  The second walk: structs built, slices cut and made, regions that draw their order.
-/
import Derived.Test.YtcpobgjoicadjaaV3
import Derived.Test.YtcpobgjoicadjaaTail
namespace Go.Proofs.Ytcpobgjoicadjaa
open Go.RowKit Go.Sort

variable {P : Program} {ops : Array Oper} {Q : Exit → Act → World → Prop} {rest : List Oper} {n d : Nat} {a : Act} {L : List (Nat × Value)} {w w0 : World} {v : Value} {o : Oper} {H : List Ent}

theorem nrmA {b : Bool} (h : (!b) = true) : b = false := by simpa using h
theorem nrmB {b : Bool} (h : (!b) = false) : b = true := by simpa using h
theorem nrm1 {x y : Int} (h : decide (x < y) = false) : y ≤ x := Int.not_lt.1 (of_decide_eq_false h)
theorem nrm2 {x y : Int} (h : decide (x ≤ y) = false) : y < x := Int.not_le.1 (of_decide_eq_false h)
theorem nrm3 {x y : Int} (h : (x == y) = true) : x = y := by simpa using h
theorem nrm4 {x y : Int} (h : (x == y) = false) : x ≠ y := by simpa using h
theorem nrm5 {x y : Int} (h : (x != y) = true) : x ≠ y := by simpa using h
theorem nrm6 {x y : Int} (h : (x != y) = false) : x = y := by simpa using h

/-! ### regions that draw -/
theorem qt_y {C : World → Prop} {Q : Act → Prop} (S : Sees n a L) (hg : gd ops L o = some true) (hd : o.dst = some d) (hn : Nat.blt d n = true) (hy : ∀ w, C w → Yields P a o w v) (k : ∀ a, Sees n a ((d, v) :: L) → wpQuiet P ops C Q rest a) : wpQuiet P ops C Q (o :: rest) a := by
  unfold wpQuiet
  rw [if_pos (gd_spec S hg)]
  refine ⟨v, fun w hw => ?_, ?_⟩
  · unfold Oper.quietAt
    rw [show (execOp a.eval o).run P w = _ from hy w hw]
    exact ⟨rfl, rfl⟩
  · rw [hd]; exact k _ (S.put hn v)
theorem qt_no {C : World → Prop} {Q : Act → Prop} (S : Sees n a L) (hg : gd ops L o = some false) (hd : o.dst = some d) (hn : Nat.blt d n = true) (k : ∀ a, Sees n a ((d, undef) :: L) → wpQuiet P ops C Q rest a) : wpQuiet P ops C Q (o :: rest) a := by
  unfold wpQuiet
  rw [if_neg (by rw [gd_spec S hg]; simp), hd]
  exact k _ (S.put hn undef)
theorem qt_call {C : World → Prop} {Q : Act → Prop} {f : FuncId} {xs : List Operand} {vs : List Value} (S : Sees n a L) {d : Nat} {ts : Array TypeId} {t : TypeId} {p : String} {e : Array Edge} {g : Option (Nat × Bool)}
    (hE : Enters P f) (hg : gd ops L ⟨some d, .call { callee := .value (.func f), args := xs.toArray, argTypes := ts }, t, p, e, g⟩ = some true) (hn : Nat.blt d n = true) (hx : vals L xs = some vs)
    (hC : ∀ w, C w → Calls P f vs.toArray w fun e w' => e = .returned v ∧ C w')
    (k : ∀ a, Sees n a ((d, v) :: L) → wpQuiet P ops C Q rest a) : wpQuiet P ops C Q (⟨some d, .call { callee := .value (.func f), args := xs.toArray, argTypes := ts }, t, p, e, g⟩ :: rest) a := by
  unfold wpQuiet
  rw [if_pos (gd_spec S hg)]
  refine ⟨v, fun w hw => ?_, k _ (S.put hn v)⟩
  unfold Oper.quietAt
  rw [run_call hE S hx]
  exact ⟨rfl, hC w hw⟩
theorem quiet_of {f : FuncId} {args : Array Value} {v : Value} (h : ∀ w, Mem w0 w H → Calls P f args w fun e w' => e = .returned v ∧ Below w.heap.size w w') : ∀ w, Mem w0 w H → Calls P f args w fun e w' => e = .returned v ∧ Mem w0 w' H :=
  fun w M => (h w M).mono fun _ _ hh => ⟨hh.1, M.grow hh.2⟩

theorem wp_quiet {id : Nat} {l : List Oper} (M : Mem w0 w H) (hm : P.follows .mixedOrders = true) (hB : Region.lexB .any l.toArray = true)
    (h : wpQuiet P l.toArray (fun w' => Mem w0 w' H) (fun a' => ∀ w', Mem w0 w' H → Q .normal a' w') l a) : (Code.region id l.toArray true).wp P Q a w :=
  wp_region_quiet (C := fun w' => Mem w0 w' H) hm hB M.drew (by simpa using h)
theorem wp_tail {id : Nat} {l : List Oper} (m : Nat) (M : Mem w0 w H) (hm : P.follows .mixedOrders = true) (hB : Region.lexTailB .any l.toArray m = true)
    (h : wpQuiet P l.toArray (fun w' => Mem w0 w' H) (fun a' => ∀ w', Mem w0 w' H → wpList P l.toArray Q (l.drop m) a' w') (l.take m) a) : (Code.region id l.toArray true).wp P Q a w :=
  wp_region_quiet_tail (C := fun w' => Mem w0 w' H) m hm hB M.drew h

/-! ### structs built -/
/-- the places of a struct's fields -/
def placesOf (P : Program) (fs : Array Field) : Option (List (Nat × Nat)) :=
  fs.toList.mapM fun f => match P.info? f.type with | some i => some (f.offset, i.size) | none => none
/-- where the parts of a struct lie, and its zero -/
def buildInfo (P : Program) (t : TypeId) : Option (List (Nat × Nat) × List Value) :=
  match P.info? t with
  | some i => match i.zero with
    | some z => match P.underlying t with
      | some (.struct fs) => match placesOf P fs with
        | some ps => some (ps, z.cells.toList)
        | none => none
      | _ => none
    | none => none
  | none => none

def fillL (pl : Nat → Option (Nat × Nat)) : List Value → List (Nat × Value) → Option (List Value)
  | l, [] => some l
  | l, (i, u) :: r => match pl i with
    | none => none
    | some (off, sz) => bif Nat.beq u.cells.toList.length sz && Nat.ble (off + sz) l.length then fillL pl (putL l off u.cells.toList) r else none

theorem putL_foldl : ∀ (us : List Value) (l : List Value) (off j : Nat), ((us.zipIdx j).foldl (fun cs p => cs.setIfInBounds (off + p.2) p.1) l.toArray) = (putL l (off + j) us).toArray
  | [], l, off, j => rfl
  | u :: us, l, off, j => by
    simp only [List.zipIdx_cons, List.foldl_cons, List.setIfInBounds_toArray]
    rw [putL_foldl us]
    rfl

theorem fill_of_fillL {pl : Nat → Option (Nat × Nat)} : ∀ (r : List (Nat × Value)) (l cs : List Value), fillL pl l r = some cs → Instr.fill pl l.toArray r = some cs.toArray
  | [], l, cs, h => by simp only [fillL, Option.some.injEq] at h; subst h; rfl
  | (i, u) :: r, l, cs, h => by
    unfold fillL at h
    unfold Instr.fill
    cases hp : pl i with
    | none => rw [hp] at h; cases h
    | some q =>
      obtain ⟨off, sz⟩ := q
      rw [hp] at h
      simp only at h ⊢
      cases hb : (Nat.beq u.cells.toList.length sz && Nat.ble (off + sz) l.length) with
      | false => rw [hb] at h; cases h
      | true =>
        rw [hb] at h
        simp only [Bool.and_eq_true] at hb
        have h1 : u.cells.size = sz := by have := Nat.eq_of_beq_eq_true hb.1; simpa using this
        have h2 := Nat.le_of_ble_eq_true hb.2
        rw [if_neg (by simp [h1]; omega)]
        have := fill_of_fillL (pl := pl) r _ cs h
        rw [← this]
        congr 1
        have e := putL_foldl u.cells.toList l off 0
        simp only [Nat.add_zero] at e
        rw [← e, ← Array.foldl_toList]
        simp

theorem run_places {fs : Array Field} {ps : List (Nat × Nat)} (h : placesOf P fs = some ps) : (fs.mapM fun f : Field => (do pure (f.offset, ← sizeOf f.type) : Sem (Nat × Nat))).run P w = .ok ps.toArray w := by
  obtain ⟨l⟩ := fs
  unfold placesOf at h
  simp only at h
  rw [List.mapM_toArray]
  have key : ∀ (l : List Field) (ps : List (Nat × Nat)), l.mapM (fun f => match P.info? f.type with | some i => some (f.offset, i.size) | none => none) = some ps →
      (l.mapM fun f : Field => (do pure (f.offset, ← sizeOf f.type) : Sem (Nat × Nat))).run P w = .ok ps w := by
    intro l
    induction l with
    | nil => intro ps h; simp at h; subst h; rfl
    | cons f l ih =>
      intro ps h
      rw [List.mapM_cons] at h
      cases hi : P.info? f.type with
      | none => simp [hi] at h
      | some i =>
        simp only [hi, Option.bind_eq_bind, Option.bind_some] at h
        cases hr : l.mapM (fun f => match P.info? f.type with | some i => some (f.offset, i.size) | none => none) with
        | none => rw [hr] at h; simp at h
        | some r =>
          rw [hr] at h
          simp only [Option.bind_some, Option.pure_def, Option.some.injEq] at h
          subst h
          rw [List.mapM_cons]
          simp only [Sem.run_bind, run_sizeOf hi, Result.andThen_ok, Sem.run_pure, ih r hr]
  have := key l ps h
  show (Sem.bind (l.mapM fun f : Field => (do pure (f.offset, ← sizeOf f.type) : Sem (Nat × Nat))) (fun x => Sem.pure x.toArray)).run P w = _
  rw [show ∀ (x : Sem (List (Nat × Nat))) (k : List (Nat × Nat) → Sem (Array (Nat × Nat))), (Sem.bind x k).run P w = (x.run P w).andThen fun y w' => (k y).run P w' from fun x k => Sem.run_bind .., this]
  rfl

theorem zip_eval (f : Operand → Value) : ∀ ps : List (Nat × Operand), ps.map (fun x => (x.1, f x.2)) = (ps.map (·.1)).zip ((ps.map (·.2)).map f)
  | [] => rfl
  | q :: ps => by simp only [List.map_cons, List.zip_cons_cons, zip_eval f ps]

theorem y_build {T : TypeId} {ps : List (Nat × Operand)} {pl : List (Nat × Nat)} {z vs cs : List Value} (S : Sees n a L) (hB : buildInfo P T = some (pl, z)) (hv : vals L (ps.map (·.2)) = some vs) (hf : fillL (fun i => pl[i]?) z ((ps.map (·.1)).zip vs) = some cs)
    {d : Option Tmp} {t : TypeId} {p : String} {e : Array Edge} {g : Option (Nat × Bool)} : Yields P a ⟨d, .build T ps.toArray, t, p, e, g⟩ w (.agg cs.toArray) := by
  unfold buildInfo at hB
  cases hi : P.info? T with
  | none => simp [hi] at hB
  | some i =>
    simp only [hi] at hB
    cases hz : i.zero with
    | none => simp [hz] at hB
    | some zv =>
      simp only [hz] at hB
      cases hu : P.underlying T with
      | none => simp [hu] at hB
      | some td =>
        rw [hu] at hB
        cases td <;> simp only [reduceCtorEq] at hB
        rename_i fs
        cases hpl : placesOf P fs with
        | none => simp [hpl] at hB
        | some pl' =>
          simp only [hpl, Option.some.injEq, Prod.mk.injEq] at hB
          obtain ⟨rfl, rfl⟩ := hB
          have hparts : (ps.toArray.map fun (x : Nat × Operand) => (x.1, a.eval x.2)).toList = (ps.map (·.1)).zip vs := by
            rw [← S.evals hv, ← zip_eval a.eval ps]; simp
          have hfill := fill_of_fillL _ _ _ hf
          unfold Yields execOp
          simp only [Instr.build, Sem.run_bind]
          rw [show (zeroValue T).run P w = .ok zv w by simp [zeroValue, typeInfo, hi, hz, go_sem]]
          simp only [Result.andThen_ok]
          rw [show (underlying T).run P w = .ok (.struct fs) w by simp [underlying, hu, go_sem]]
          simp only [Result.andThen_ok, Sem.run_bind, run_places hpl]
          rw [show (fun x : Nat => pl'.toArray[x]?) = (fun x => pl'[x]?) from funext fun x => by simp, hparts]
          rw [Array.toArray_toList] at hfill
          rw [hfill]
          rfl


/-! ### a field of a struct by value -/
theorem fieldOff_spec {s f k : Nat} (hF : fieldOff P s f = some k) : ∃ fs fl, P.underlying s = some (.struct fs) ∧ fs[f]? = some fl ∧ fl.offset = k := by
  unfold fieldOff at hF
  cases hu : P.underlying s with
  | none => simp [hu] at hF
  | some td =>
    rw [hu] at hF
    cases td <;> simp only [reduceCtorEq] at hF
    rename_i fs
    cases hf : fs[f]? with
    | none => simp [hf] at hF
    | some fl =>
      simp only [hf] at hF
      cases hi : P.info? fl.type with
      | none => simp [hi] at hF
      | some i =>
        simp only [hi] at hF
        split at hF
        · cases hF
        · cases hF; exact ⟨fs, fl, rfl, hf, rfl⟩

/-! ### integers of another kind -/
theorem y_conv {x : Operand} {k k' : IntKind} {i : Int} {src dst : TypeId} (S : Sees n a L) (hx : val L x = some (.int k i)) (hs : (P.underlying src).isSome = true) (hd : P.underlying dst = some (.int k')) {d : Option Tmp} {t : TypeId} {p : String} {e : Array Edge} {g : Option (Nat × Bool)} :
    Yields P a ⟨d, .convert src dst x, t, p, e, g⟩ w (.int k' (k'.wrap i)) := by
  obtain ⟨td, htd⟩ := Option.isSome_iff_exists.1 hs
  unfold Yields execOp
  simp only [S.eval hx, convert, Sem.run_bind]
  rw [show (underlying src).run P w = .ok td w by simp [underlying, htd, go_sem]]
  simp only [Result.andThen_ok, Sem.run_bind]
  rw [show (underlying dst).run P w = .ok (.int k') w by simp [underlying, hd, go_sem]]
  rfl

/-! ### slices cut -/
/-- where a cut slice begins -/
def subA (a : Option Addr) (l m sz : Nat) : Option Addr := if m = l then a else a.map (·.add (l * sz))
theorem y_slice3 {x lo hi mx : Operand} {ad : Option Addr} {len cap t e sz : Nat} {i j k : Int} {k1 k2 k3 : IntKind} (S : Sees n a L) (hE : sliceElem P t = some (e, sz)) (hx : val L x = some (.slice ad len cap)) (h1 : val L lo = some (.int k1 i)) (h2 : val L hi = some (.int k2 j)) (h3 : val L mx = some (.int k3 k))
    (h : 0 ≤ i ∧ i ≤ j ∧ j ≤ k ∧ k ≤ cap) {d : Option Tmp} {ty : TypeId} {p : String} {ed : Array Edge} {g : Option (Nat × Bool)} :
    Yields P a ⟨d, .slice t x (some lo) (some hi) (some mx), ty, p, ed, g⟩ w (.slice (subA ad i.toNat k.toNat sz) (j.toNat - i.toNat) (k.toNat - i.toNat)) := by
  obtain ⟨hu, inf, hinf, rfl⟩ := sliceElem_spec hE
  unfold Yields execOp
  simp only [Option.map_some, S.eval hx, S.eval h1, S.eval h2, S.eval h3]
  have e1 : 0 ≤ k ∧ k ≤ cap := by omega
  have e2 : 0 ≤ j ∧ j ≤ (k.toNat : Int) := by omega
  have e2' : j ≤ max k 0 := by omega
  have e3 : 0 ≤ i ∧ i ≤ (j.toNat : Int) := by omega
  have e3' : i ≤ max j 0 := by omega
  have e3n : ¬ max j 0 < i := by omega
  simp [Instr.sliceAt, Instr.slice, Instr.sliceBounds, Instr.sliceBound, underlying, hu, asIntOf, e1, e2, e3, e2', e3', sizeOf, typeInfo, hinf, subA, go_sem]
theorem y_slice2 {x lo hi : Operand} {ad : Option Addr} {len cap t e sz : Nat} {i j : Int} {k1 k2 : IntKind} (S : Sees n a L) (hE : sliceElem P t = some (e, sz)) (hx : val L x = some (.slice ad len cap)) (h1 : val L lo = some (.int k1 i)) (h2 : val L hi = some (.int k2 j))
    (h : 0 ≤ i ∧ i ≤ j ∧ j ≤ cap) {d : Option Tmp} {ty : TypeId} {p : String} {ed : Array Edge} {g : Option (Nat × Bool)} :
    Yields P a ⟨d, .slice t x (some lo) (some hi) none, ty, p, ed, g⟩ w (.slice (subA ad i.toNat cap sz) (j.toNat - i.toNat) (cap - i.toNat)) := by
  obtain ⟨hu, inf, hinf, rfl⟩ := sliceElem_spec hE
  unfold Yields execOp
  simp only [Option.map_some, Option.map_none, S.eval hx, S.eval h1, S.eval h2]
  have e2 : 0 ≤ j ∧ j ≤ cap := by omega
  have e3 : 0 ≤ i ∧ i ≤ (j.toNat : Int) := by omega
  have e3' : i ≤ max j 0 := by omega
  have e3n : ¬ max j 0 < i := by omega
  simp [Instr.sliceAt, Instr.slice, Instr.sliceBounds, Instr.sliceBound, underlying, hu, asIntOf, e2, e3, e3', e3n, sizeOf, typeInfo, hinf, subA, go_sem]
theorem y_slice1 {x lo : Operand} {ad : Option Addr} {len cap t e sz : Nat} {i : Int} {k1 : IntKind} (S : Sees n a L) (hE : sliceElem P t = some (e, sz)) (hx : val L x = some (.slice ad len cap)) (h1 : val L lo = some (.int k1 i))
    (h : 0 ≤ i ∧ i ≤ len) {d : Option Tmp} {ty : TypeId} {p : String} {ed : Array Edge} {g : Option (Nat × Bool)} :
    Yields P a ⟨d, .slice t x (some lo) none none, ty, p, ed, g⟩ w (.slice (subA ad i.toNat cap sz) (len - i.toNat) (cap - i.toNat)) := by
  obtain ⟨hu, inf, hinf, rfl⟩ := sliceElem_spec hE
  unfold Yields execOp
  simp only [Option.map_some, Option.map_none, S.eval hx, S.eval h1]
  simp [Instr.sliceAt, Instr.slice, Instr.sliceBounds, Instr.sliceBound, underlying, hu, asIntOf, h, sizeOf, typeInfo, hinf, subA, go_sem]
theorem y_slice03 {x hi mx : Operand} {ad : Option Addr} {len cap t e sz : Nat} {j k : Int} {k2 k3 : IntKind} (S : Sees n a L) (hE : sliceElem P t = some (e, sz)) (hx : val L x = some (.slice ad len cap)) (h2 : val L hi = some (.int k2 j)) (h3 : val L mx = some (.int k3 k))
    (h : 0 ≤ j ∧ j ≤ k ∧ k ≤ cap) {d : Option Tmp} {ty : TypeId} {p : String} {ed : Array Edge} {g : Option (Nat × Bool)} :
    Yields P a ⟨d, .slice t x none (some hi) (some mx), ty, p, ed, g⟩ w (.slice ad j.toNat k.toNat) := by
  obtain ⟨hu, inf, hinf, rfl⟩ := sliceElem_spec hE
  unfold Yields execOp
  simp only [Option.map_some, Option.map_none, S.eval hx, S.eval h2, S.eval h3]
  have e1 : 0 ≤ k ∧ k ≤ cap := by omega
  have e2 : 0 ≤ j ∧ j ≤ (k.toNat : Int) := by omega
  have e2' : j ≤ max k 0 := by omega
  have e0 : ∀ (a : Option Addr), a.map (fun x => x.add 0) = a := fun a => by cases a <;> rfl
  simp [Instr.sliceAt, Instr.slice, Instr.sliceBounds, Instr.sliceBound, underlying, hu, asIntOf, e1, e2, e2', sizeOf, typeInfo, hinf, e0, go_sem]
theorem y_slice02 {x hi : Operand} {ad : Option Addr} {len cap t e sz : Nat} {j : Int} {k2 : IntKind} (S : Sees n a L) (hE : sliceElem P t = some (e, sz)) (hx : val L x = some (.slice ad len cap)) (h2 : val L hi = some (.int k2 j))
    (h : 0 ≤ j ∧ j ≤ cap) {d : Option Tmp} {ty : TypeId} {p : String} {ed : Array Edge} {g : Option (Nat × Bool)} :
    Yields P a ⟨d, .slice t x none (some hi) none, ty, p, ed, g⟩ w (.slice ad j.toNat cap) := by
  obtain ⟨hu, inf, hinf, rfl⟩ := sliceElem_spec hE
  unfold Yields execOp
  simp only [Option.map_some, Option.map_none, S.eval hx, S.eval h2]
  have e0 : ∀ (a : Option Addr), a.map (fun x => x.add 0) = a := fun a => by cases a <;> rfl
  simp [Instr.sliceAt, Instr.slice, Instr.sliceBounds, Instr.sliceBound, underlying, hu, asIntOf, h, sizeOf, typeInfo, hinf, e0, go_sem]

/-! ### several operations that are not wanted, at once -/
theorem Sees.forget {v : Value} (S : Sees n a ((d, v) :: L)) (h : (look L d).isNone = true) : Sees n a L := by
  have key : ∀ t u, look L t = some u → look ((d, v) :: L) t = some u := fun t u ht => by
    unfold look
    cases hb : Nat.beq d t with
    | true =>
      have : d = t := Nat.eq_of_beq_eq_true hb
      subst this
      rw [ht] at h; cases h
    | false => exact ht
  exact ⟨S.size, S.defers, fun t u ht hlt => S.at_ t u (key t u ht) hlt, fun t u ht => S.lt t u (key t u ht)⟩
def skipB (ops : Array Oper) (L : List (Nat × Value)) (n : Nat) : Nat → List Oper → Bool
  | 0, _ => true
  | _ + 1, [] => false
  | k + 1, o :: r => match gd ops L o, o.dst with
    | some false, some d => (look L d).isNone && Nat.blt d n && skipB ops L n k r
    | _, _ => false
theorem st_skip : ∀ (k : Nat) {rest : List Oper} {a : Act} (S : Sees n a L) (h : skipB ops L n k rest = true) (kk : ∀ a, Sees n a L → wpList P ops Q (rest.drop k) a w), wpList P ops Q rest a w
  | 0, rest, a, S, _, kk => kk a S
  | k + 1, [], a, S, h, kk => by simp [skipB] at h
  | k + 1, o :: r, a, S, h, kk => by
    unfold skipB at h
    split at h
    · rename_i d hg hd
      simp only [Bool.and_eq_true] at h
      exact st_no S hg hd h.1.2 fun a' S' => st_skip k (S'.forget h.1.1) h.2 kk
    · cases h
theorem qt_skip {C : World → Prop} {Q : Act → Prop} : ∀ (k : Nat) {rest : List Oper} {a : Act} (S : Sees n a L) (h : skipB ops L n k rest = true) (kk : ∀ a, Sees n a L → wpQuiet P ops C Q (rest.drop k) a), wpQuiet P ops C Q rest a
  | 0, rest, a, S, _, kk => kk a S
  | k + 1, [], a, S, h, kk => by simp [skipB] at h
  | k + 1, o :: r, a, S, h, kk => by
    unfold skipB at h
    split at h
    · rename_i d hg hd
      simp only [Bool.and_eq_true] at h
      exact qt_no S hg hd h.1.2 fun a' S' => qt_skip k (S'.forget h.1.1) h.2 kk
    · cases h

end Go.Proofs.Ytcpobgjoicadjaa
