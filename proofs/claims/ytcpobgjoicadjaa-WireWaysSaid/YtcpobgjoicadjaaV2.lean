/-
  The second walk: single operations.
-/
import Derived.Test.YtcpobgjoicadjaaV1
namespace Go.Proofs.Ytcpobgjoicadjaa
open Go.RowKit Go.Sort

variable {P : Program} {ops : Array Oper} {Q : Exit → Act → World → Prop} {rest : List Oper} {n d : Nat} {a : Act} {L : List (Nat × Value)} {w : World} {v : Value} {o : Oper}

/-- is an operation wanted, by what is seen? -/
def gd (ops : Array Oper) (L : List (Nat × Value)) (o : Oper) : Option Bool :=
  match o.guard with
  | none => some true
  | some (j, want) => match ops[j]? with
    | none => none
    | some oj => match oj.dst with
      | none => none
      | some t => match look L t with
        | some (.bool b) => some (b == want)
        | some _ => some false
        | none => none

theorem gd_spec {b : Bool} (S : Sees n a L) (h : gd ops L o = some b) : Region.wanted o (yielded ops a.tmps) = b := by
  unfold gd at h
  unfold Region.wanted
  cases hg : o.guard with
  | none => rw [hg] at h; exact Option.some.inj h
  | some p =>
    obtain ⟨j, want⟩ := p
    rw [hg] at h
    simp only at h ⊢
    cases hj : ops[j]? with
    | none => rw [hj] at h; cases h
    | some oj =>
      rw [hj] at h
      simp only at h
      cases ht : oj.dst with
      | none => rw [ht] at h; cases h
      | some t =>
        rw [ht] at h
        simp only at h
        have hy : ∀ c, look L t = some (.bool c) → yielded ops a.tmps j = some c := fun c hc => by
          have h1 := S.lt t _ hc
          have h2 := S.at_ t _ hc h1
          have h3 : t < a.tmps.size := by rw [S.size]; exact h1
          unfold yielded
          rw [hj]
          simp only [Option.bind_some, ht]
          rw [Array.getD_eq_getD_getElem?, Array.getElem?_eq_getElem h3] at h2
          rw [Array.getElem?_eq_getElem h3]
          simp only [Option.getD_some] at h2
          rw [h2]
        cases hl : look L t with
        | none => rw [hl] at h; cases h
        | some u =>
          rw [hl] at h
          have hn : (∀ c, u ≠ .bool c) → yielded ops a.tmps j = none := fun hu => by
            have h1 := S.lt t _ hl
            have h2 := S.at_ t _ hl h1
            have h3 : t < a.tmps.size := by rw [S.size]; exact h1
            unfold yielded
            rw [hj]
            simp only [Option.bind_some, ht]
            rw [Array.getD_eq_getD_getElem?, Array.getElem?_eq_getElem h3] at h2
            rw [Array.getElem?_eq_getElem h3]
            simp only [Option.getD_some] at h2
            rw [h2]
            cases u <;> first | rfl | exact absurd rfl (hu _)
          cases u with
          | bool c =>
            simp only [Option.some.injEq] at h
            rw [hy _ hl, ← h]
            cases c <;> cases want <;> rfl
          | _ =>
            simp only [Option.some.injEq] at h
            rw [hn (fun c hc => by cases hc), ← h]
            rfl

/-- the operation leaves the value v, and the world as it was -/
def Yields (P : Program) (a : Act) (o : Oper) (w : World) (v : Value) : Prop := (execOp a.eval o).run P w = .ok (.value v) w

theorem st_y (S : Sees n a L) (hg : gd ops L o = some true) (hd : o.dst = some d) (hn : Nat.blt d n = true) (hy : Yields P a o w v) (k : ∀ a, Sees n a ((d, v) :: L) → wpList P ops Q rest a w) : wpList P ops Q (o :: rest) a w := by
  unfold wpList
  rw [if_pos (gd_spec S hg)]
  refine .inl ?_
  unfold Oper.wp
  rw [show (execOp a.eval o).run P w = _ from hy, Oper.upon_value, hd]
  exact k _ (S.put hn v)

/-- the operation leaves the value v, in another world -/
theorem st_w {w' : World} (S : Sees n a L) (hg : gd ops L o = some true) (hd : o.dst = some d) (hn : Nat.blt d n = true) (hy : (execOp a.eval o).run P w = .ok (.value v) w') (k : ∀ a, Sees n a ((d, v) :: L) → wpList P ops Q rest a w') : wpList P ops Q (o :: rest) a w := by
  unfold wpList
  rw [if_pos (gd_spec S hg)]
  refine .inl ?_
  unfold Oper.wp
  rw [hy, Oper.upon_value, hd]
  exact k _ (S.put hn v)

/-- a store -/
theorem st_s {w' : World} (S : Sees n a L) (hg : gd ops L o = some true) (hd : o.dst = none) (hy : (execOp a.eval o).run P w = .ok .skip w') (k : wpList P ops Q rest a w') : wpList P ops Q (o :: rest) a w := by
  unfold wpList
  rw [if_pos (gd_spec S hg)]
  refine .inl ?_
  unfold Oper.wp
  rw [hy, Oper.upon_skip, hd]
  exact k

/-- not wanted -/
theorem st_no (S : Sees n a L) (hg : gd ops L o = some false) (hd : o.dst = some d) (hn : Nat.blt d n = true) (k : ∀ a, Sees n a ((d, undef) :: L) → wpList P ops Q rest a w) : wpList P ops Q (o :: rest) a w := by
  unfold wpList
  rw [if_neg (by rw [gd_spec S hg]; simp), hd]
  exact k _ (S.put hn undef)
theorem st_no0 (S : Sees n a L) (hg : gd ops L o = some false) (hd : o.dst = none) (k : wpList P ops Q rest a w) : wpList P ops Q (o :: rest) a w := by
  unfold wpList
  rw [if_neg (by rw [gd_spec S hg]; simp), hd]
  exact k

/-- a bool in a slot is told -/
theorem st_split {G : Prop} {b : Bool} {t : Nat} (S : Sees n a L) (h : look L t = some (.bool b)) (k1 : b = true → Sees n a ((t, .bool true) :: L) → G) (k2 : b = false → Sees n a ((t, .bool false) :: L) → G) : G := by
  have key : ∀ c, b = c → Sees n a ((t, .bool c) :: L) := fun c hc => by
    subst hc
    have hlt := S.lt t _ h
    have hl : ∀ t' u, look ((t, .bool b) :: L) t' = some u → look L t' = some u := fun t' u h' => by
      unfold look at h'
      cases hb : Nat.beq t t' with
      | true => rw [hb] at h'; rw [← Nat.eq_of_beq_eq_true hb, h]; exact h'
      | false => rw [hb] at h'; exact h'
    exact ⟨S.size, S.defers, fun t' u h' => S.at_ t' u (hl t' u h'), fun t' u h' => S.lt t' u (hl t' u h')⟩
  cases hb : b with
  | true => exact k1 hb (key true hb)
  | false => exact k2 hb (key false hb)

theorem st_cond {c : Operand} {x y : Code} {b : Bool} (S : Sees n a L) (h : val L c = some (.bool b)) (k1 : b = true → x.wp P Q a w) (k2 : b = false → y.wp P Q a w) : (Code.cond c x y).wp P Q a w :=
  wp_cond_split (S.eval h) k1 k2
theorem st_condT {c : Operand} {x y : Code} (S : Sees n a L) (h : val L c = some (.bool true)) (k : x.wp P Q a w) : (Code.cond c x y).wp P Q a w := wp_cond_true (S.eval h) k
theorem st_condF {c : Operand} {x y : Code} (S : Sees n a L) (h : val L c = some (.bool false)) (k : y.wp P Q a w) : (Code.cond c x y).wp P Q a w := wp_cond_false (S.eval h) k

/-! ### pure operations -/
theorem y_move {x : Operand} (S : Sees n a L) (hx : val L x = some v) {d : Option Tmp} {t : TypeId} {p : String} {e : Array Edge} {g : Option (Nat × Bool)} : Yields P a ⟨d, .move x, t, p, e, g⟩ w v := by
  unfold Yields execOp; simp only [S.eval hx]; rfl
theorem y_assign {x : Operand} (S : Sees n a L) (hx : val L x = some v) {d : Option Tmp} {t : TypeId} {p : String} {e : Array Edge} {g : Option (Nat × Bool)} : Yields P a ⟨d, .assign x, t, p, e, g⟩ w v := by
  unfold Yields execOp; simp only [S.eval hx]; rfl
theorem y_pickT {c x y : Operand} (S : Sees n a L) (hc : val L c = some (.bool true)) (hx : val L x = some v) {d : Option Tmp} {t : TypeId} {p : String} {e : Array Edge} {g : Option (Nat × Bool)} : Yields P a ⟨d, .pick c x y, t, p, e, g⟩ w v := by
  unfold Yields execOp; simp only [S.eval hc, S.eval hx]; rfl
theorem y_pickF {c x y : Operand} (S : Sees n a L) (hc : val L c = some (.bool false)) (hx : val L y = some v) {d : Option Tmp} {t : TypeId} {p : String} {e : Array Edge} {g : Option (Nat × Bool)} : Yields P a ⟨d, .pick c x y, t, p, e, g⟩ w v := by
  unfold Yields execOp; simp only [S.eval hc, S.eval hx]; rfl

/-- what two integers of one kind come to -/
def intBin (op : BinOp) (k : IntKind) (x y : Int) : Option Value :=
  match op with
  | .add => some (.int k (k.wrap (x + y)))
  | .sub => some (.int k (k.wrap (x - y)))
  | .mul => some (.int k (k.wrap (x * y)))
  | .eql => some (.bool (x == y))
  | .neq => some (.bool (x != y))
  | .lss => some (.bool (decide (x < y)))
  | .leq => some (.bool (decide (x ≤ y)))
  | .gtr => some (.bool (decide (y < x)))
  | .geq => some (.bool (decide (y ≤ x)))
  | .and => some (.int k (k.wrap (BitVec.ofInt k.bits x &&& BitVec.ofInt k.bits y).toNat))
  | .or => some (.int k (k.wrap (BitVec.ofInt k.bits x ||| BitVec.ofInt k.bits y).toNat))
  | .xor => some (.int k (k.wrap (BitVec.ofInt k.bits x ^^^ BitVec.ofInt k.bits y).toNat))
  | _ => none

theorem y_int {x y : Operand} {op : BinOp} {k : IntKind} {i j : Int} (S : Sees n a L) (hx : val L x = some (.int k i)) (hy : val L y = some (.int k j)) (hr : intBin op k i j = some v)
    {d : Option Tmp} {xt yt t : TypeId} {p : String} {e : Array Edge} {g : Option (Nat × Bool)} : Yields P a ⟨d, .binOp op xt x y yt, t, p, e, g⟩ w v := by
  unfold Yields execOp
  simp only [S.eval hx, S.eval hy]
  cases op <;> simp only [intBin, Option.some.injEq, reduceCtorEq] at hr <;> subst hr <;> simp [eqGuard, binOp, Op.intArith, Op.intCmp, Op.intBits, go_sem]

theorem y_addN {x y : Operand} {i j : Int} (S : Sees n a L) (hx : val L x = some (.int .i64 i)) (hy : val L y = some (.int .i64 j)) (h : -9223372036854775808 ≤ i + j ∧ i + j ≤ 9223372036854775807)
    {d : Option Tmp} {xt yt t : TypeId} {p : String} {e : Array Edge} {g : Option (Nat × Bool)} : Yields P a ⟨d, .binOp .add xt x y yt, t, p, e, g⟩ w (.int .i64 (i + j)) := by
  refine y_int S hx hy ?_; simp only [intBin]; rw [IntWalk.i64_in _ h]
theorem y_subN {x y : Operand} {i j : Int} (S : Sees n a L) (hx : val L x = some (.int .i64 i)) (hy : val L y = some (.int .i64 j)) (h : -9223372036854775808 ≤ i - j ∧ i - j ≤ 9223372036854775807)
    {d : Option Tmp} {xt yt t : TypeId} {p : String} {e : Array Edge} {g : Option (Nat × Bool)} : Yields P a ⟨d, .binOp .sub xt x y yt, t, p, e, g⟩ w (.int .i64 (i - j)) := by
  refine y_int S hx hy ?_; simp only [intBin]; rw [IntWalk.i64_in _ h]
theorem y_mulN {x y : Operand} {i j : Int} (S : Sees n a L) (hx : val L x = some (.int .i64 i)) (hy : val L y = some (.int .i64 j)) (h : -9223372036854775808 ≤ i * j ∧ i * j ≤ 9223372036854775807)
    {d : Option Tmp} {xt yt t : TypeId} {p : String} {e : Array Edge} {g : Option (Nat × Bool)} : Yields P a ⟨d, .binOp .mul xt x y yt, t, p, e, g⟩ w (.int .i64 (i * j)) := by
  refine y_int S hx hy ?_; simp only [intBin]; rw [IntWalk.i64_in _ h]
/-- a division of what is not negative by a positive number -/
theorem y_quoN {x y : Operand} {i j : Int} (S : Sees n a L) (hx : val L x = some (.int .i64 i)) (hy : val L y = some (.int .i64 j)) (h : 0 ≤ i ∧ i ≤ 9223372036854775807 ∧ 0 < j)
    {d : Option Tmp} {xt yt t : TypeId} {p : String} {e : Array Edge} {g : Option (Nat × Bool)} : Yields P a ⟨d, .binOp .quo xt x y yt, t, p, e, g⟩ w (.int .i64 (i / j)) := by
  obtain ⟨h0, h1, h2⟩ := h
  have hne : j ≠ 0 := by omega
  have hq : i.tdiv j = i / j := Int.tdiv_eq_ediv_of_nonneg h0
  have hb : -9223372036854775808 ≤ i / j ∧ i / j ≤ 9223372036854775807 := by
    have := Int.ediv_nonneg h0 (Int.le_of_lt h2)
    have := Int.ediv_le_self j h0
    omega
  unfold Yields execOp
  simp only [S.eval hx, S.eval hy]
  simp [eqGuard, binOp, Op.intDiv, go_sem, hne, hq, IntWalk.i64_in _ hb]
theorem y_remN {x y : Operand} {i j : Int} (S : Sees n a L) (hx : val L x = some (.int .i64 i)) (hy : val L y = some (.int .i64 j)) (h : 0 ≤ i ∧ 0 < j)
    {d : Option Tmp} {xt yt t : TypeId} {p : String} {e : Array Edge} {g : Option (Nat × Bool)} : Yields P a ⟨d, .binOp .rem xt x y yt, t, p, e, g⟩ w (.int .i64 (i % j)) := by
  obtain ⟨h0, h2⟩ := h
  have hne : j ≠ 0 := by omega
  have hq : i.tmod j = i % j := Int.tmod_eq_emod_of_nonneg h0
  unfold Yields execOp
  simp only [S.eval hx, S.eval hy]
  simp [eqGuard, binOp, Op.intDiv, go_sem, hne, hq]
theorem y_shr {x y : Operand} {k yk : IntKind} {i j : Int} (S : Sees n a L) (hx : val L x = some (.int k i)) (hy : val L y = some (.int yk j)) (h : 0 ≤ j)
    {d : Option Tmp} {xt yt t : TypeId} {p : String} {e : Array Edge} {g : Option (Nat × Bool)} : Yields P a ⟨d, .binOp .shr xt x y yt, t, p, e, g⟩ w (.int k (i.fdiv (2 ^ (min j.toNat k.bits)))) := by
  unfold Yields execOp
  simp only [S.eval hx, S.eval hy]
  have : ¬ j < 0 := by omega
  simp [eqGuard, binOp, Op.shift, this, go_sem]
theorem y_shl {x y : Operand} {k yk : IntKind} {i j : Int} (S : Sees n a L) (hx : val L x = some (.int k i)) (hy : val L y = some (.int yk j)) (h : 0 ≤ j)
    {d : Option Tmp} {xt yt t : TypeId} {p : String} {e : Array Edge} {g : Option (Nat × Bool)} : Yields P a ⟨d, .binOp .shl xt x y yt, t, p, e, g⟩ w (.int k (k.wrap (i * 2 ^ (min j.toNat k.bits)))) := by
  unfold Yields execOp
  simp only [S.eval hx, S.eval hy]
  have : ¬ j < 0 := by omega
  simp [eqGuard, binOp, Op.shift, this, go_sem]
theorem y_not {x : Operand} {b : Bool} (S : Sees n a L) (hx : val L x = some (.bool b)) {d : Option Tmp} {xt t : TypeId} {p : String} {e : Array Edge} {g : Option (Nat × Bool)} : Yields P a ⟨d, .unOp .not xt x, t, p, e, g⟩ w (.bool (!b)) := by
  unfold Yields execOp; simp only [S.eval hx]; rfl
theorem y_compl {x : Operand} {i : Int} (S : Sees n a L) (hx : val L x = some (.int .u32 i)) {d : Option Tmp} {xt t : TypeId} {p : String} {e : Array Edge} {g : Option (Nat × Bool)} :
    Yields P a ⟨d, .unOp .xor xt x, t, p, e, g⟩ w (.int .u32 (IntKind.u32.wrap (BitVec.ofInt 32 4294967295 ^^^ BitVec.ofInt 32 i).toNat)) := by
  unfold Yields execOp; simp only [S.eval hx]; rfl
def nthL : List Value → Nat → Option Value
  | [], _ => none
  | x :: _, 0 => some x
  | _ :: l, i + 1 => nthL l i
theorem nthL_eq : ∀ (l : List Value) (i : Nat), nthL l i = l[i]?
  | [], i => by simp [nthL]
  | x :: l, 0 => rfl
  | x :: l, i + 1 => by simp [nthL, nthL_eq l i]
theorem y_extract {x : Operand} {vs : Array Value} {i : Nat} (S : Sees n a L) (hx : val L x = some (.tuple vs)) (hi : nthL vs.toList i = some v) {d : Option Tmp} {t : TypeId} {p : String} {e : Array Edge} {g : Option (Nat × Bool)} :
    Yields P a ⟨d, .extract x i, t, p, e, g⟩ w v := by
  rw [nthL_eq, Array.getElem?_toList] at hi; unfold Yields execOp; simp only [S.eval hx]; simp [Instr.extract, hi, go_sem]
theorem run_builtin {b : Builtin} {xs : List Operand} {vs : List Value} (S : Sees n a L) (hx : vals L xs = some vs) {d : Option Tmp} {ts : Array TypeId} {t : TypeId} {p : String} {e : Array Edge} {g : Option (Nat × Bool)} :
    ∃ cs, (execOp a.eval ⟨d, .call { callee := .builtin b, args := xs.toArray, argTypes := ts }, t, p, e, g⟩).run P w = (builtin b ts t cs vs.toArray).run P w := by
  have h : xs.toArray.map a.eval = vs.toArray := by rw [← S.evals hx]; simp
  have h2 : (execOp a.eval ⟨d, .call { callee := .builtin b, args := xs.toArray, argTypes := ts }, t, p, e, g⟩).run P w = (builtin b ts t (xs.toArray.map fun | .const _ => true | _ => false) vs.toArray).run P w := by
    unfold execOp
    simp only [resolve, h, invoke, Sem.run_bind, Sem.run_pure, Result.andThen_ok]
    rfl
  exact ⟨_, h2⟩
theorem y_lenS {x : Operand} {ad : Option Addr} {l c : Nat} {T E : TypeId} (S : Sees n a L) (hx : val L x = some (.slice ad l c)) (hU : P.underlying T = some (.slice E)) {d : Option Tmp} {t : TypeId} {p : String} {e : Array Edge} {g : Option (Nat × Bool)} :
    Yields P a ⟨d, .call { callee := .builtin .len, args := #[x], argTypes := #[T] }, t, p, e, g⟩ w (.int .i64 l) := by
  obtain ⟨cs, h⟩ := run_builtin (P := P) (w := w) (b := .len) (xs := [x]) (vs := [.slice ad l c]) S (by simp [vals, hx]) (d := d) (ts := #[T]) (t := t) (p := p) (e := e) (g := g)
  unfold Yields
  rw [h]
  simp [builtin, Builtin.len_, underlying, hU, go_sem]
theorem y_capS {x : Operand} {ad : Option Addr} {l c : Nat} {T E : TypeId} (S : Sees n a L) (hx : val L x = some (.slice ad l c)) (hU : P.underlying T = some (.slice E)) {d : Option Tmp} {t : TypeId} {p : String} {e : Array Edge} {g : Option (Nat × Bool)} :
    Yields P a ⟨d, .call { callee := .builtin .cap, args := #[x], argTypes := #[T] }, t, p, e, g⟩ w (.int .i64 c) := by
  obtain ⟨cs, h⟩ := run_builtin (P := P) (w := w) (b := .cap) (xs := [x]) (vs := [.slice ad l c]) S (by simp [vals, hx]) (d := d) (ts := #[T]) (t := t) (p := p) (e := e) (g := g)
  unfold Yields
  rw [h]
  simp [builtin, Builtin.cap_, underlying, hU, go_sem]
theorem y_lenStr {x : Operand} {s : ByteArray} {T : TypeId} (S : Sees n a L) (hx : val L x = some (.string s)) (hU : P.underlying T = some .string) {d : Option Tmp} {t : TypeId} {p : String} {e : Array Edge} {g : Option (Nat × Bool)} :
    Yields P a ⟨d, .call { callee := .builtin .len, args := #[x], argTypes := #[T] }, t, p, e, g⟩ w (.int .i64 s.size) := by
  obtain ⟨cs, h⟩ := run_builtin (P := P) (w := w) (b := .len) (xs := [x]) (vs := [.string s]) S (by simp [vals, hx]) (d := d) (ts := #[T]) (t := t) (p := p) (e := e) (g := g)
  unfold Yields
  rw [h]
  simp [builtin, Builtin.len_, underlying, hU, go_sem]
theorem y_min {x y : Operand} {k : IntKind} {i j : Int} (S : Sees n a L) (hx : val L x = some (.int k i)) (hy : val L y = some (.int k j)) {d : Option Tmp} {ts : Array TypeId} {t : TypeId} {p : String} {e : Array Edge} {g : Option (Nat × Bool)} :
    Yields P a ⟨d, .call { callee := .builtin .min, args := #[x, y], argTypes := ts }, t, p, e, g⟩ w (.int k (min i j)) := by
  obtain ⟨cs, h⟩ := run_builtin (P := P) (w := w) (b := .min) (xs := [x, y]) (vs := [.int k i, .int k j]) S (by simp [vals, hx, hy]) (d := d) (ts := ts) (t := t) (p := p) (e := e) (g := g)
  unfold Yields
  rw [h]
  have : (if j < i then j else i) = min i j := by omega
  simp [builtin, Builtin.min_, Builtin.min2, List.foldlM, go_sem, this]
theorem y_max {x y : Operand} {k : IntKind} {i j : Int} (S : Sees n a L) (hx : val L x = some (.int k i)) (hy : val L y = some (.int k j)) {d : Option Tmp} {ts : Array TypeId} {t : TypeId} {p : String} {e : Array Edge} {g : Option (Nat × Bool)} :
    Yields P a ⟨d, .call { callee := .builtin .max, args := #[x, y], argTypes := ts }, t, p, e, g⟩ w (.int k (max i j)) := by
  obtain ⟨cs, h⟩ := run_builtin (P := P) (w := w) (b := .max) (xs := [x, y]) (vs := [.int k i, .int k j]) S (by simp [vals, hx, hy]) (d := d) (ts := ts) (t := t) (p := p) (e := e) (g := g)
  unfold Yields
  rw [h]
  have : (if i < j then j else i) = max i j := by omega
  simp [builtin, Builtin.max_, Builtin.max2, List.foldlM, go_sem, this]
theorem y_nilCheck {x : Operand} {ad : Addr} (S : Sees n a L) (hx : val L x = some (.pointer (some ad))) {d : Option Tmp} {t : TypeId} {p : String} {e : Array Edge} {g : Option (Nat × Bool)} : Yields P a ⟨d, .nilCheck x, t, p, e, g⟩ w (.pointer (some ad)) := by
  unfold Yields execOp; simp only [S.eval hx]; rfl

end Go.Proofs.Ytcpobgjoicadjaa
