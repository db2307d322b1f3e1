/-
  The second walk: numbers of 32 bits, function values, results in cells.
-/
import Derived.Test.YtcpobgjoicadjaaV6
namespace Go.Proofs.Ytcpobgjoicadjaa
open Go.RowKit Go.Sort

variable {P : Program} {ops : Array Oper} {Q : Exit → Act → World → Prop} {rest : List Oper} {n d : Nat} {a : Act} {L : List (Nat × Value)} {w w0 : World} {v : Value} {o : Oper} {H : List Ent}

theorem wrap_u32_toNat (p : BitVec 32) : IntKind.u32.wrap (p.toNat : Int) = (p.toNat : Int) := by
  have := p.isLt
  simp only [IntKind.wrap, IntKind.bits, IntKind.signed]
  simp; omega
theorem ofInt_toNat32 (p : BitVec 32) : BitVec.ofInt 32 (p.toNat : Int) = p := by
  rw [BitVec.ofInt_natCast]; simp
theorem wrap_u32 (i : Int) : IntKind.u32.wrap i = ((BitVec.ofInt 32 i).toNat : Int) := by
  simp only [IntKind.wrap, IntKind.bits, IntKind.signed, BitVec.toNat_ofInt]
  simp
  have : (0 : Int) ≤ i % 4294967296 := by omega
  omega

theorem y_xor32 {x y : Operand} {r q : BitVec 32} (S : Sees n a L) (hx : val L x = some (.int .u32 (r.toNat : Int))) (hy : val L y = some (.int .u32 (q.toNat : Int))) {d : Option Tmp} {xt yt t : TypeId} {p : String} {e : Array Edge} {g : Option (Nat × Bool)} :
    Yields P a ⟨d, .binOp .xor xt x y yt, t, p, e, g⟩ w (.int .u32 ((r ^^^ q).toNat : Int)) := by
  refine y_int S hx hy ?_; simp only [intBin, IntKind.bits, ofInt_toNat32, wrap_u32_toNat]; rfl
theorem y_and32 {x y : Operand} {r q : BitVec 32} (S : Sees n a L) (hx : val L x = some (.int .u32 (r.toNat : Int))) (hy : val L y = some (.int .u32 (q.toNat : Int))) {d : Option Tmp} {xt yt t : TypeId} {p : String} {e : Array Edge} {g : Option (Nat × Bool)} :
    Yields P a ⟨d, .binOp .and xt x y yt, t, p, e, g⟩ w (.int .u32 ((r &&& q).toNat : Int)) := by
  refine y_int S hx hy ?_; simp only [intBin, IntKind.bits, ofInt_toNat32, wrap_u32_toNat]; rfl
theorem y_or32 {x y : Operand} {r q : BitVec 32} (S : Sees n a L) (hx : val L x = some (.int .u32 (r.toNat : Int))) (hy : val L y = some (.int .u32 (q.toNat : Int))) {d : Option Tmp} {xt yt t : TypeId} {p : String} {e : Array Edge} {g : Option (Nat × Bool)} :
    Yields P a ⟨d, .binOp .or xt x y yt, t, p, e, g⟩ w (.int .u32 ((r ||| q).toNat : Int)) := by
  refine y_int S hx hy ?_; simp only [intBin, IntKind.bits, ofInt_toNat32, wrap_u32_toNat]; rfl
theorem beq_toNat32 (r q : BitVec 32) : ((r.toNat : Int) == (q.toNat : Int)) = (r == q) := by
  rw [Bool.eq_iff_iff]; simp only [beq_iff_eq]
  constructor
  · intro h; exact BitVec.eq_of_toNat_eq (by omega)
  · intro h; rw [h]
theorem y_eql32 {x y : Operand} {r q : BitVec 32} (S : Sees n a L) (hx : val L x = some (.int .u32 (r.toNat : Int))) (hy : val L y = some (.int .u32 (q.toNat : Int))) {d : Option Tmp} {xt yt t : TypeId} {p : String} {e : Array Edge} {g : Option (Nat × Bool)} :
    Yields P a ⟨d, .binOp .eql xt x y yt, t, p, e, g⟩ w (.bool (r == q)) := by
  refine y_int S hx hy ?_; simp only [intBin, beq_toNat32]
theorem y_neq32 {x y : Operand} {r q : BitVec 32} (S : Sees n a L) (hx : val L x = some (.int .u32 (r.toNat : Int))) (hy : val L y = some (.int .u32 (q.toNat : Int))) {d : Option Tmp} {xt yt t : TypeId} {p : String} {e : Array Edge} {g : Option (Nat × Bool)} :
    Yields P a ⟨d, .binOp .neq xt x y yt, t, p, e, g⟩ w (.bool (r != q)) := by
  refine y_int S hx hy ?_; simp only [intBin, bne, beq_toNat32]
theorem y_shr32 {x y : Operand} {r : BitVec 32} {yk : IntKind} {k : Nat} (S : Sees n a L) (hx : val L x = some (.int .u32 (r.toNat : Int))) (hy : val L y = some (.int yk (k : Int))) {d : Option Tmp} {xt yt t : TypeId} {p : String} {e : Array Edge} {g : Option (Nat × Bool)} :
    Yields P a ⟨d, .binOp .shr xt x y yt, t, p, e, g⟩ w (.int .u32 ((r >>> k).toNat : Int)) := by
  have h := y_shr (P := P) (w := w) S hx hy (by omega) (d := d) (xt := xt) (yt := yt) (t := t) (p := p) (e := e) (g := g)
  have e2 : (r.toNat : Int).fdiv (2 ^ (min (k : Int).toNat IntKind.u32.bits)) = ((r >>> k).toNat : Int) := by
    rw [Int.fdiv_eq_ediv_of_nonneg _ (Int.pow_nonneg (by omega))]
    have hlt := r.isLt
    simp only [BitVec.toNat_ushiftRight, Nat.shiftRight_eq_div_pow, Int.toNat_natCast, IntKind.bits]
    rcases Nat.le_total k 32 with hk | hk
    · rw [Nat.min_eq_left hk]; simp
    · rw [Nat.min_eq_right hk]
      have h1 : r.toNat / 2 ^ k = 0 := Nat.div_eq_of_lt (Nat.lt_of_lt_of_le hlt (Nat.pow_le_pow_right (by omega) hk))
      rw [h1]
      have h2 : r.toNat / 2 ^ 32 = 0 := Nat.div_eq_of_lt hlt
      have := congrArg (fun z : Nat => (z : Int)) h2
      simpa using this
  rw [e2] at h; exact h
theorem y_compl32 {x : Operand} {r : BitVec 32} (S : Sees n a L) (hx : val L x = some (.int .u32 (r.toNat : Int))) {d : Option Tmp} {xt t : TypeId} {p : String} {e : Array Edge} {g : Option (Nat × Bool)} :
    Yields P a ⟨d, .unOp .xor xt x, t, p, e, g⟩ w (.int .u32 ((~~~r).toNat : Int)) := by
  have h := y_compl (P := P) (w := w) S hx (d := d) (xt := xt) (t := t) (p := p) (e := e) (g := g)
  rw [ofInt_toNat32, wrap_u32_toNat] at h
  rw [show BitVec.ofInt 32 4294967295 = BitVec.allOnes 32 from rfl, BitVec.allOnes_xor] at h
  exact h
/-- a number of 64 bits, or of 8, as one of 32 -/
theorem y_to32 {x : Operand} {k : IntKind} {i : Int} {src dst : TypeId} (S : Sees n a L) (hx : val L x = some (.int k i)) (hs : (P.underlying src).isSome = true) (hd : P.underlying dst = some (.int .u32)) {d : Option Tmp} {t : TypeId} {p : String} {e : Array Edge} {g : Option (Nat × Bool)} :
    Yields P a ⟨d, .convert src dst x, t, p, e, g⟩ w (.int .u32 ((BitVec.ofInt 32 i).toNat : Int)) := by
  have h := y_conv (P := P) (w := w) S hx hs hd (d := d) (t := t) (p := p) (e := e) (g := g)
  rw [wrap_u32] at h; exact h

/-! ### a call of a function value -/
theorem st_callV {f : FuncId} {fx : Operand} {xs : List Operand} {vs : List Value} {R : Ending → World → Prop} (S : Sees n a L) {d : Nat} {ts : Array TypeId} {t : TypeId} {p : String} {e : Array Edge} {g : Option (Nat × Bool)}
    (hE : Enters P f) (hg : gd ops L ⟨some d, .call { callee := .value fx, args := xs.toArray, argTypes := ts }, t, p, e, g⟩ = some true) (hn : Nat.blt d n = true) (hf : val L fx = some (.func (.func f) #[] #[])) (hx : vals L xs = some vs) (hC : Calls P f vs.toArray w R)
    (k : ∀ e w', R e w' → ∃ v, e = .returned v ∧ ∀ a, Sees n a ((d, v) :: L) → wpList P ops Q rest a w') : wpList P ops Q (⟨some d, .call { callee := .value fx, args := xs.toArray, argTypes := ts }, t, p, e, g⟩ :: rest) a w := by
  unfold wpList
  rw [if_pos (gd_spec S hg)]
  refine .inl ?_
  unfold Oper.wp
  have h : xs.toArray.map a.eval = vs.toArray := by rw [← S.evals hx]; simp
  have hr : (execOp a.eval ⟨some d, .call { callee := .value fx, args := xs.toArray, argTypes := ts }, t, p, e, g⟩).run P w = .ok (.enter f vs.toArray) w := by
    unfold execOp
    simp only [resolve, h, S.eval hf, Deferred.ofValue, Sem.run_bind, Sem.run_pure, Result.andThen_ok, invoke, Array.append_empty, Array.empty_append]
    exact hE _ _
  rw [hr, Oper.upon_enter]
  refine hC.mono fun e w' hR => ?_
  obtain ⟨v, rfl, hk⟩ := k e w' hR
  exact hk _ (S.put hn v)

/-! ### results in cells -/
/-- what a result is read as -/
def ResOk (P : Program) (w : World) (L : List (Nat × Value)) (r : ResultVar) (v : Value) : Prop :=
  match r with
  | .tmp t => look L t = some v
  | .cell t T => ∃ b o, look L t = some (.pointer (some ⟨b, o, none⟩)) ∧ ((plainB P T = true ∧ w.cell? ⟨b, o, none⟩ = some v) ∨ ∃ k cs, aggB P T = some k ∧ cs.length = k ∧ CellsAt w b o cs ∧ v = .agg cs.toArray)
theorem res_tmp {t : Nat} (h : look L t = some v) : ResOk P w L (.tmp t) v := h
theorem res_agg {t T k b o : Nat} {cs : List Value} (hT : aggB P T = some k) (ht : look L t = some (.pointer (some ⟨b, o, none⟩))) (hk : cs.length = k) (hc : CellsAt w b o cs) : ResOk P w L (.cell t T) (.agg cs.toArray) :=
  ⟨b, o, ht, .inr ⟨k, cs, hT, hk, hc, rfl⟩⟩
theorem res_cell {t T b o : Nat} (hT : plainB P T = true) (ht : look L t = some (.pointer (some ⟨b, o, none⟩))) (hc : w.cell? ⟨b, o, none⟩ = some v) : ResOk P w L (.cell t T) v := ⟨b, o, ht, .inl ⟨hT, hc⟩⟩

inductive ResAll (P : Program) (w : World) (L : List (Nat × Value)) : List ResultVar → List Value → Prop
  | nil : ResAll P w L [] []
  | cons {r : ResultVar} {v : Value} {rs : List ResultVar} {vs : List Value} : ResOk P w L r v → ResAll P w L rs vs → ResAll P w L (r :: rs) (v :: vs)

def resOne (tmps : Array Value) : ResultVar → Sem Value
  | .tmp t => pure (tmps.getD t undef)
  | .cell a t => do loadVar t (← asAddr (tmps.getD a undef))
theorem run_resOne (S : Sees n a L) {r : ResultVar} (h : ResOk P w L r v) : (resOne a.tmps r).run P w = .ok v w := by
  cases r with
  | tmp t =>
    have h : look L t = some v := h
    simp only [resOne, S.at_ t v h (S.lt t v h), Sem.run_pure]
  | cell t T =>
    obtain ⟨b, o, ht, h⟩ := h
    have hv := S.at_ t _ ht (S.lt t _ ht)
    simp only [resOne, hv, asAddr, Sem.run_bind, Sem.run_pure, Result.andThen_ok, loadVar]
    rcases h with ⟨hT, hc⟩ | ⟨k, cs, hT, hk, hc, rfl⟩
    · simp only [run_isAgg_plain hT, Result.andThen_ok]
      simp [load, hc, Sem.run, go_sem]
    · obtain ⟨h1, i, hi, hs⟩ := aggB_spec hT
      have hl := loadCellsFrom_run (P := P) (w := w) (b := b) (o := o) cs 0 #[] (fun j hj => by rw [Nat.zero_add]; exact hc j hj)
      rw [hk] at hl
      simp only [h1, Result.andThen_ok, if_true, Sem.run_bind, run_sizeOf hi, hs, loadCells, hl, Sem.run_pure]
      simp
theorem run_resAll (S : Sees n a L) : ∀ {rs : List ResultVar} {vs : List Value}, ResAll P w L rs vs → (rs.mapM (resOne a.tmps)).run P w = .ok vs w
  | [], _, .nil => rfl
  | r :: rs, _, .cons h hs => by
    rw [List.mapM_cons]
    simp only [Sem.run_bind, run_resOne S h, Result.andThen_ok, run_resAll S hs, Sem.run_pure]
theorem run_results {fn : Func} {rs : List ResultVar} {vs : List Value} (S : Sees n a L) (hr : fn.results = rs.toArray) (h : ResAll P w L rs vs) : (results fn a.tmps).run P w = .ok (if h : vs.toArray.size = 1 then vs.toArray[0] else .tuple vs.toArray) w := by
  have e : results fn a.tmps = (do let vs ← fn.results.mapM (resOne a.tmps); pure (if h : vs.size = 1 then vs[0] else .tuple vs)) := by
    unfold results
    congr 2
  rw [e, hr, List.mapM_toArray]
  simp only [Sem.run_bind]
  have hm : (List.toArray <$> rs.mapM (resOne a.tmps)).run P w = .ok vs.toArray w := by
    show (Sem.bind (rs.mapM (resOne a.tmps)) (fun x => Sem.pure x.toArray)).run P w = _
    rw [show ∀ (x : Sem (List Value)) (k : List Value → Sem (Array Value)), (Sem.bind x k).run P w = (x.run P w).andThen fun y w' => (k y).run P w' from fun x k => Sem.run_bind .., run_resAll S h]
    rfl
  rw [hm]
  rfl
theorem end_one {fn : Func} {R : Ending → World → Prop} {r : ResultVar} (S : Sees n a L) (hr : fn.results = #[r]) (h1 : ResOk P w L r v) (h : R (.returned v) w) : bodyPost P fn R .ret a w :=
  bodyPost_ret (run_results (rs := [r]) (vs := [v]) S hr (.cons h1 .nil)) S.defers h
theorem end_two {fn : Func} {R : Ending → World → Prop} {r r' : ResultVar} {v' : Value} (S : Sees n a L) (hr : fn.results = #[r, r']) (h1 : ResOk P w L r v) (h2 : ResOk P w L r' v') (h : R (.returned (.tuple #[v, v'])) w) : bodyPost P fn R .ret a w :=
  bodyPost_ret (run_results (rs := [r, r']) (vs := [v, v']) S hr (.cons h1 (.cons h2 .nil))) S.defers h
theorem end_three {fn : Func} {R : Ending → World → Prop} {r r' r'' : ResultVar} {v' v'' : Value} (S : Sees n a L) (hr : fn.results = #[r, r', r'']) (h1 : ResOk P w L r v) (h2 : ResOk P w L r' v') (h3 : ResOk P w L r'' v'') (h : R (.returned (.tuple #[v, v', v''])) w) : bodyPost P fn R .ret a w :=
  bodyPost_ret (run_results (rs := [r, r', r'']) (vs := [v, v', v'']) S hr (.cons h1 (.cons h2 (.cons h3 .nil)))) S.defers h
theorem end_four {fn : Func} {R : Ending → World → Prop} {r r' r'' r3 : ResultVar} {v' v'' v3 : Value} (S : Sees n a L) (hr : fn.results = #[r, r', r'', r3]) (h1 : ResOk P w L r v) (h2 : ResOk P w L r' v') (h3 : ResOk P w L r'' v'') (h4 : ResOk P w L r3 v3) (h : R (.returned (.tuple #[v, v', v'', v3])) w) : bodyPost P fn R .ret a w :=
  bodyPost_ret (run_results (rs := [r, r', r'', r3]) (vs := [v, v', v'', v3]) S hr (.cons h1 (.cons h2 (.cons h3 (.cons h4 .nil))))) S.defers h

theorem cutL_all' : ∀ l : List Value, cutL l 0 l.length = some l
  | [] => rfl
  | c :: l => by simp only [List.length_cons, cutL, cutL_all' l, Option.map_some]
theorem cutL_all {l : List Value} : cutL l.toArray.toList 0 l.length = some l := cutL_all' l

/-! ### loops by a number that falls -/
theorem least {p : Nat → Prop} : ∀ m, p m → ∃ k, p k ∧ ∀ j, j < k → ¬ p j := by
  intro m
  induction m using Nat.strongRecOn with
  | _ m ih =>
    intro hm
    by_cases h : ∃ j, j < m ∧ p j
    · obtain ⟨j, hj, hp⟩ := h; exact ih j hj hp
    · exact ⟨m, hm, fun j hj hp => h ⟨j, hj, hp⟩⟩
open Classical in
theorem wp_loop_g {c : Code} (I : Nat → Act → World → Prop) (m0 : Nat) (h0 : I m0 a w) (round : ∀ m a w, I m a w → c.wp P (Exit.then (fun a' w' => ∃ m', m' < m ∧ I m' a' w') Q) a w) : (Code.loop c).wp P Q a w := by
  let μ : Act → World → Nat := fun a w => if h : ∃ k, I k a w ∧ ∀ j, j < k → ¬ I j a w then Classical.choose h else 0
  have hμ : ∀ a w m, I m a w → I (μ a w) a w ∧ μ a w ≤ m := fun a w m hm => by
    have h := least (p := fun k => I k a w) m hm
    have hs := Classical.choose_spec h
    have e : μ a w = Classical.choose h := dif_pos h
    rw [e]
    exact ⟨hs.1, Nat.le_of_not_lt fun hlt => hs.2 m hlt hm⟩
  refine wp_loop (fun a w => ∃ m, I m a w) μ ⟨m0, h0⟩ fun a w ⟨m, hm⟩ => ?_
  refine wp_mono (round _ a w (hμ a w m hm).1) fun e a' w' h => ?_
  cases e <;> try exact h
  obtain ⟨m', hlt, hm'⟩ := h
  exact ⟨⟨m', hm'⟩, Nat.lt_of_le_of_lt (hμ a' w' m' hm').2 hlt⟩

end Go.Proofs.Ytcpobgjoicadjaa
