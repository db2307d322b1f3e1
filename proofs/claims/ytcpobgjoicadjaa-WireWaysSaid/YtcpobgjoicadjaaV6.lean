/-
  The second walk: literals of slices, strings, more comparisons.
-/
import Derived.Test.YtcpobgjoicadjaaV5
namespace Go.Proofs.Ytcpobgjoicadjaa
open Go.RowKit Go.Sort

variable {P : Program} {ops : Array Oper} {Q : Exit → Act → World → Prop} {rest : List Oper} {n d : Nat} {a : Act} {L : List (Nat × Value)} {w w0 : World} {v : Value} {o : Oper} {H : List Ent}

/-- a slice literal's element, its cells, the zero cells of all -/
def litInfo (P : Program) (t : TypeId) (len : Nat) : Option (TypeId × Nat × List Value) :=
  match P.underlying t with
  | some (.slice e) => match P.info? e with
    | some i => match i.zero with
      | some z => if len * i.size = 0 ∨ len * i.size > 2 ^ 24 then none else some (e, i.size, ((Array.range (len * i.size)).map (z.cells[· % z.cells.size]!)).toList)
      | none => none
    | none => none
  | _ => none

theorem st_lit {t e sz len : Nat} {zl vs cs : List Value} {ps : List (Nat × Operand)} (S : Sees n a L) (M : Mem w0 w H) {d : Nat} {ty : TypeId} {p : String} {ed : Array Edge} {g : Option (Nat × Bool)}
    (hg : gd ops L ⟨some d, .buildSlice t len ps.toArray, ty, p, ed, g⟩ = some true) (hn : Nat.blt d n = true) (hI : litInfo P t len = some (e, sz, zl)) (hv : vals L (ps.map (·.2)) = some vs) (hf : fillL (fun i => some (i * sz, sz)) zl ((ps.map (·.1)).zip vs) = some cs)
    (k : ∀ a w' b, Sees n a ((d, .slice (some ⟨b, 0, none⟩) len len) :: L) → Mem w0 w' (.blk b cs.toArray e :: H) → Below w.heap.size w w' → wpList P ops Q rest a w') : wpList P ops Q (⟨some d, .buildSlice t len ps.toArray, ty, p, ed, g⟩ :: rest) a w := by
  unfold litInfo at hI
  cases hu : P.underlying t with
  | none => simp [hu] at hI
  | some td =>
    rw [hu] at hI
    cases td <;> simp only [reduceCtorEq] at hI
    rename_i e'
    cases hi : P.info? e' with
    | none => simp [hi] at hI
    | some i =>
      simp only [hi] at hI
      cases hz : i.zero with
      | none => simp [hz] at hI
      | some z =>
        simp only [hz] at hI
        split at hI
        · cases hI
        · rename_i hsm
          simp only [Option.some.injEq, Prod.mk.injEq] at hI
          obtain ⟨rfl, rfl, rfl⟩ := hI
          have hparts : (ps.toArray.map fun (x : Nat × Operand) => (x.1, a.eval x.2)).toList = (ps.map (·.1)).zip vs := by
            rw [← S.evals hv, ← zip_eval a.eval ps]; simp
          have hfill := fill_of_fillL _ _ _ hf
          rw [Array.toArray_toList] at hfill
          refine st_w (v := .slice (some ⟨w.heap.size, 0, none⟩) len len) (w' := w.alloc (.cells cs.toArray e')) S hg rfl hn ?_ fun a S' => k a _ w.heap.size S' (M.alloc _ _) (ext_alloc (ext_refl _) _)
          unfold execOp
          simp only [Sem.run_bind]
          rw [run_buildSlice w t e' len _ cs.toArray i z hu hi hz (by omega) (by omega) (by rw [hparts]; exact hfill)]
          rfl

theorem st_lit0 {t e sz by_ : Nat} {zc : List Value} (S : Sees n a L) (M : Mem w0 w H) {d : Nat} {ty : TypeId} {p : String} {ed : Array Edge} {g : Option (Nat × Bool)}
    (hg : gd ops L ⟨some d, .buildSlice t 0 #[], ty, p, ed, g⟩ = some true) (hn : Nat.blt d n = true) (hI : sliceInfo P t = some (e, sz, by_, zc))
    (k : ∀ a w' b, Sees n a ((d, .slice (some ⟨b, 0, none⟩) 0 0) :: L) → Mem w0 w' (.blk b #[] e :: H) → Below w.heap.size w w' → wpList P ops Q rest a w') : wpList P ops Q (⟨some d, .buildSlice t 0 #[], ty, p, ed, g⟩ :: rest) a w := by
  obtain ⟨hu, i, z, hi', hz, rfl, rfl, hzc⟩ := sliceInfo_spec hI
  refine st_w (v := .slice (some ⟨w.heap.size, 0, none⟩) 0 0) (w' := w.alloc (.cells #[] e)) S hg rfl hn ?_ fun a S' => k a _ w.heap.size S' (M.alloc _ _) (ext_alloc (ext_refl _) _)
  unfold execOp
  simp [Instr.buildSlice, run_underlying hu, sizeOf, typeInfo, hi', Instr.fill, newRow, Array.range_zero', go_sem]

/-! ### bytes, strings -/
def bcells (bs : List UInt8) : List Value := bs.map fun b => .int .u8 (b.toNat : Int)
theorem bcells_length (bs : List UInt8) : (bcells bs).length = bs.length := by simp [bcells]
theorem bcells_append (x y : List UInt8) : bcells (x ++ y) = bcells x ++ bcells y := by simp [bcells]
theorem bcells_get {bs : List UInt8} {i : Nat} {b : UInt8} (h : bs[i]? = some b) : (bcells bs)[i]? = some (.int .u8 (b.toNat : Int)) := by simp [bcells, h]
theorem bcells_cut (bs : List UInt8) (i k : Nat) : ((bcells bs).drop i).take k = bcells ((bs.drop i).take k) := by simp [bcells, List.map_drop, List.map_take]
theorem allOne_bcells : ∀ bs : List UInt8, allOne (bcells bs) = true
  | [] => rfl
  | b :: bs => by simp only [bcells, List.map_cons, allOne, oneB, Bool.true_and]; exact allOne_bcells bs
/-- the slice reads as these bytes -/
abbrev Bs (lo hi : Nat) (w : World) (v : Value) (bs : List UInt8) : Prop := Rd lo hi w 1 v bs.length (bcells bs)

theorem y_bytesStr {x : Operand} {u : Value} {lo hi src dst e : Nat} {bs : List UInt8} (S : Sees n a L) (hx : val L x = some u) (hs : P.underlying src = some (.slice e)) (he : P.underlying e = some (.int .u8)) (hd : P.underlying dst = some .string) (h : Bs lo hi w u bs)
    {d : Option Tmp} {t : TypeId} {p : String} {ed : Array Edge} {g : Option (Nat × Bool)} : Yields P a ⟨d, .convert src dst x, t, p, ed, g⟩ w (.string ⟨bs.toArray⟩) := by
  unfold Yields execOp
  simp only [S.eval hx, Sem.run_bind]
  rcases h.2.2 with ⟨rfl, h0⟩ | ⟨ad, cap, rfl, hc, hm, ha, hsp⟩
  · have : bs = [] := List.eq_nil_of_length_eq_zero h0
    subst this
    rw [run_convert_bytes_string w src dst e none 0 0 hs he hd]
    rfl
  · rw [run_convert_bytes_back w src dst e ad cap bs hs he hd (fun j hj => ha.addA (fun hne => (hsp (by omega)).1) j _ (by simp [bcells, hj]))]
    rfl

theorem y_eqlStr {x y : Operand} {s r : ByteArray} {xt : TypeId} (S : Sees n a L) (hx : val L x = some (.string s)) (hy : val L y = some (.string r)) {d : Option Tmp} {yt t : TypeId} {p : String} {e : Array Edge} {g : Option (Nat × Bool)} :
    Yields P a ⟨d, .binOp .eql xt x y yt, t, p, e, g⟩ w (.bool (s.toList == r.toList)) := by
  unfold Yields execOp; simp only [S.eval hx, S.eval hy]; rfl
theorem y_neqStr {x y : Operand} {s r : ByteArray} {xt : TypeId} (S : Sees n a L) (hx : val L x = some (.string s)) (hy : val L y = some (.string r)) {d : Option Tmp} {yt t : TypeId} {p : String} {e : Array Edge} {g : Option (Nat × Bool)} :
    Yields P a ⟨d, .binOp .neq xt x y yt, t, p, e, g⟩ w (.bool (!(s.toList == r.toList))) := by
  unfold Yields execOp; simp only [S.eval hx, S.eval hy]; rfl
theorem y_eqlBool {x y : Operand} {b c : Bool} {xt : TypeId} (hU : P.underlying xt = some .bool) (S : Sees n a L) (hx : val L x = some (.bool b)) (hy : val L y = some (.bool c)) {d : Option Tmp} {yt t : TypeId} {p : String} {e : Array Edge} {g : Option (Nat × Bool)} :
    Yields P a ⟨d, .binOp .eql xt x y yt, t, p, e, g⟩ w (.bool (b == c)) := by
  unfold Yields execOp; simp only [S.eval hx, S.eval hy, eqGuard, Sem.run_bind]
  simp [run_eql_bool w xt b c hU, go_sem]
theorem y_neqBool {x y : Operand} {b c : Bool} {xt : TypeId} (hU : P.underlying xt = some .bool) (S : Sees n a L) (hx : val L x = some (.bool b)) (hy : val L y = some (.bool c)) {d : Option Tmp} {yt t : TypeId} {p : String} {e : Array Edge} {g : Option (Nat × Bool)} :
    Yields P a ⟨d, .binOp .neq xt x y yt, t, p, e, g⟩ w (.bool (!(b == c))) := by
  unfold Yields execOp; simp only [S.eval hx, S.eval hy, eqGuard, Sem.run_bind]
  simp [run_neq_bool w xt b c hU, go_sem]

theorem sc_normal (h : Q .normal a w) : Exit.noGoto Q .normal a w := h
theorem sc_exit {i : Nat} (h : Q (.exit i) a w) : Exit.noGoto Q (.exit i) a w := h
theorem sc_ret (h : Q .ret a w) : Exit.noGoto Q .ret a w := h

end Go.Proofs.Ytcpobgjoicadjaa
