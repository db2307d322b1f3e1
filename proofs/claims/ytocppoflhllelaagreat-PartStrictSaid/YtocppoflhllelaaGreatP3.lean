/-
  What PartStrict rests on, part 3.
-/
import Derived.Lib.SlBytesConst
import Derived.Test.YtocppoflhllelaaGreatP2
namespace Go.Proofs.YtocppoflhllelaaGreat
open Go.RowKit Go.Sort
section
variable {ds : List Deferred} {P : Program} {ops : Array Oper} {Q : Exit → Act → World → Prop} {rest : List Oper} {n d : Nat} {a : Act} {L : List (Nat × Value)} {w w0 : World} {v : Value} {o : Oper} {H : List Ent}
theorem qG (hs : List Nat) {L' : List (Nat × Value)} {A : List Nat} {rest' : List Oper} (S : SeesD ds n a L) (k : ∀ a, SeesD ds n a L' → wpList P ops Q rest' a w)
 (hr : jx ops [] n hs L [] [] rest = some ⟨L', A, A, rest'⟩ := by rfl) (hc : zm P hs rest = true := by kernel_rfl) : wpList P ops Q rest a w := Jjq hs S hr hc k
theorem qR (hs : List Nat) {L' : List (Nat × Value)} {A : List Nat} {rest' : List Oper} (S : SeesD ds n a L) (M : Mem w0 w H) (k : ∀ a, SeesD ds n a L' → wpList P ops Q rest' a w)
 (hr : jx ops H n hs L [] [] rest = some ⟨L', A, A, rest'⟩ := by rfl) (hc : zm P hs rest = true := by kernel_rfl) : wpList P ops Q rest a w := DD hs S M hr hc k
theorem qY (S : SeesD ds n a L) (hy : Je P a o w v) (k : ∀ a, SeesD ds n a ((d, v) :: L) → wpList P ops Q rest a w)
 (hg : gd ops L o = some true := by rfl) (hd : o.dst = some d := by rfl) (hn : Nat.blt d n = true := by rfl) : wpList P ops Q (o :: rest) a w := yb S hg hd hn hy k
theorem qS {x y : Operand} {T : TypeId} {u : Value} {b o sz : Nat} {l us : List Value} {BT : TypeId} {H' : List Ent} (S : SeesD ds n a L) (M : Mem w0 w H) (pos : Nat) {t : TypeId} {p : String} {e : Array Edge} {g : Option (Nat × Bool)}
 (k : ∀ w, Mem w0 w H' → wpList P ops Q rest a w)
 (hg : gd ops L ⟨none, .store T x y, t, p, e, g⟩ = some true := by rfl)
 (hT : (P.info? T).map (·.size) = some sz := by kernel_rfl) (hx : val L x = some (.pointer (some ⟨b, o, none⟩)) := by rfl) (hy : val L y = some u := by rfl) (hu : u.cells.toList = us := by rfl) (hsz : us.length = sz := by rfl) (h1 : Jp us = true := by rfl) (hp : H[pos]? = some (.blk b l.toArray BT) := by rfl) (hle : o + us.length ≤ l.length := by first | decide | (simp; done) | (simp; omega))
 (hH : H.set pos (.blk b (Jt l o us).toArray BT) = H' := by (simp only [Jt, List.set_cons_zero, List.set_cons_succ, Nat.reduceAdd]; try rfl)) : wpList P ops Q (⟨none, .store T x y, t, p, e, g⟩ :: rest) a w :=
 Ju S M pos hg hT hx hy hu hsz h1 hp hle fun w M => k w (hH ▸ M)
def Jb7 (P : Program) (f : FuncId) : Bool := match P.funcs[f]? with
 | some fn => !(fn.name == "runtime.NumGoroutine") && fn.body.isSome
 | none => false
theorem Xo {f : FuncId} (h : Jb7 P f = true) : VL P f := by
 unfold Jb7 at h
 cases hf : P.funcs[f]? with
 | none => grind
 | some fn =>
   rw [hf] at h
   simp only [Bool.and_eq_true, Bool.not_eq_true'] at h
   exact Ji hf h.1 (by simp_all)
theorem qD {f : FuncId} {xs : List Operand} {vs : List Value} {R : Ending → World → Prop} (S : SeesD ds n a L) {d : Nat} {ts : Array TypeId} {t : TypeId} {p : String} {e : Array Edge} {g : Option (Nat × Bool)}
 (hx : Vl L xs = some vs) (hC : Calls P f vs.toArray w R)
 (k : ∀ e w', R e w' → ∃ v, e = .returned v ∧ ∀ a, SeesD ds n a ((d, v) :: L) → wpList P ops Q rest a w')
 (hg : gd ops L ⟨some d, .call { callee := .value (.func f), args := xs.toArray, argTypes := ts }, t, p, e, g⟩ = some true := by rfl) (hn : Nat.blt d n = true := by rfl) (hE : Jb7 P f = true := by kernel_rfl) : wpList P ops Q (⟨some d, .call { callee := .value (.func f), args := xs.toArray, argTypes := ts }, t, p, e, g⟩ :: rest) a w :=
 U8 S (Xo hE) hg hn hx hC k
theorem qK {f : FuncId} {xs : List Operand} {vs : List Value} (S : SeesD ds n a L) {d : Nat} {ts : Array TypeId} {t : TypeId} {p : String} {e : Array Edge} {g : Option (Nat × Bool)}
 (hx : Vl L xs = some vs) (hC : Calls P f vs.toArray w fun e w' => e = .returned v ∧ Below w.heap.size w w') (M : Mem w0 w H)
 (k : ∀ a w', SeesD ds n a ((d, v) :: L) → Below w.heap.size w w' → Mem w0 w' H → wpList P ops Q rest a w')
 (hg : gd ops L ⟨some d, .call { callee := .value (.func f), args := xs.toArray, argTypes := ts }, t, p, e, g⟩ = some true := by rfl) (hn : Nat.blt d n = true := by rfl) (hE : Jb7 P f = true := by kernel_rfl) : wpList P ops Q (⟨some d, .call { callee := .value (.func f), args := xs.toArray, argTypes := ts }, t, p, e, g⟩ :: rest) a w :=
 U8 S (Xo hE) hg hn hx hC fun _ w' ⟨h1, h2⟩ => ⟨v, h1, fun a S => k a w' S h2 (M.grow h2)⟩
theorem qA (S : SeesD ds n a L) (k : ∀ a, SeesD ds n a ((d, v) :: L) → wpList P ops Q rest a w)
 (hy : SeesD ds n a L → Je P a o w v := by intro S; first | exact Zo S rfl rfl o_ | exact Qz S rfl rfl o_ | exact GG S rfl rfl o_ | exact J2 S rfl rfl rfl)
 (hg : gd ops L o = some true := by rfl) (hd : o.dst = some d := by rfl) (hn : Nat.blt d n = true := by rfl) : wpList P ops Q (o :: rest) a w := yb S hg hd hn (hy S) k
theorem cT {c : Operand} {x y : Code} (S : SeesD ds n a L) (k : x.wp P Q a w) (h : val L c = some (.bool true) := by rfl) : (Code.cond c x y).wp P Q a w := DE S h k
theorem cF {c : Operand} {x y : Code} (S : SeesD ds n a L) (k : y.wp P Q a w) (h : val L c = some (.bool false) := by rfl) : (Code.cond c x y).wp P Q a w := DF S h k
theorem qO {fn : Func} {R : Ending → World → Prop} {t : Nat} (S : Jk n a L) (k : R (.returned v) w) (hr : fn.results = #[.tmp t] := by rfl) (h1 : JK L t = some v := by rfl) : bodyPost P fn R .ret a w := Vb S hr (vp h1) k
theorem qI {f : FuncId} {fn : Func} {c : Code} {args : Array Value} {R : Ending → World → Prop} (hf : P.funcs[f]? = some fn) (n : Nat) (k : ∀ a, Jk n a (ZW 0 args.toList) → c.wp P (bodyPost P fn R) a w) (hb : fn.body = some c := by rfl) (hn : fn.ntmps = n := by rfl) (hle : Nat.ble args.size n = true := by rfl) : Calls P f args w R := vL hf hb n hn hle k
theorem qN {T : TypeId} (S : SeesD ds n a L) (M : Mem w0 w H) {d : Nat} {t : TypeId} {p : String} {e : Array Edge} {g : Option (Nat × Bool)} (c : Array Value)
 (k : ∀ a w' b, SeesD ds n a ((d, .pointer (some ⟨b, 0, none⟩)) :: L) → Mem w0 w' (.blk b c T :: H) → Below w.heap.size w w' → wpList P ops Q rest a w')
 (hg : gd ops L ⟨some d, .alloc T, t, p, e, g⟩ = some true := by rfl) (hn : Nat.blt d n = true := by rfl) (hc : Ja9 P T = some c := by kernel_rfl) : wpList P ops Q (⟨some d, .alloc T, t, p, e, g⟩ :: rest) a w := Jfm S M hg hn c hc k
theorem qi (t : Nat) {G : Prop} {b : Bool} {p q : Prop} [h1 : NrmT b p] [h2 : NrmF b q] (S : SeesD ds n a L) (k1 : p → SeesD ds n a ((t, .bool true) :: L) → G) (k2 : q → SeesD ds n a ((t, .bool false) :: L) → G) (h : JK L t = some (.bool b) := by rfl) : G := Jbk S h k1 k2
theorem qf (t : Nat) {G : Prop} {b : Bool} {p q : Prop} [h1 : NrmT b p] [h2 : NrmF b q] (S : SeesD ds n a L) (k2 : q → SeesD ds n a ((t, .bool false) :: L) → G) (k1 : p → SeesD ds n a ((t, .bool true) :: L) → G) (h : JK L t = some (.bool b) := by rfl) : G := Jjr S h k2 k1
theorem qV {x : Operand} {b o t : Nat} {c : Array Value} {T : TypeId} (S : SeesD ds n a L) (M : Mem w0 w H) (p : Nat) {d : Option Tmp} {ty : TypeId} {ps : String} {ed : Array Edge} {g : Option (Nat × Bool)} (hT : vQ P t = true := by kernel_rfl) (hx : val L x = some (.pointer (some ⟨b, o, none⟩)) := by rfl) (hp : H[p]? = some (.blk b c T) := by rfl) (hc : c[o]? = some v := by rfl) :
 Je P a ⟨d, .load t x, ty, ps, ed, g⟩ w v := Jf S hT hx (M.cell p hp hc)
theorem qX (e sz : Nat) {x ix : Operand} {u : Value} {lo hi m t : Nat} {cs : List Value} {k : IntKind} {i : Int} (S : SeesD ds n a L) (hR : Rd lo hi w sz u m cs) {d : Option Tmp} {ty : TypeId} {p : String} {ed : Array Edge} {g : Option (Nat × Bool)}
 (hE : JX P t = some (e, sz) := by kernel_rfl) (hx : val L x = some u := by rfl) (hi : val L ix = some (.int k i) := by rfl) (h : 0 ≤ i ∧ i < m := by first | omega | (simp; done) | (simp; omega)) : Je P a ⟨d, .indexAddr t x ix, ty, p, ed, g⟩ w (.pointer (some ⟨(adr u).block, (adr u).off + i.toNat * sz, none⟩)) := K1 S hE hx hR hi h
theorem qU {C : World → Prop} {Q : Act → Prop} (S : SeesD ds n a L) (hy : ∀ w, C w → Je P a o w v) (k : ∀ a, SeesD ds n a ((d, v) :: L) → wpQuiet P ops C Q rest a) (hg : gd ops L o = some true := by rfl) (hd : o.dst = some d := by rfl) (hn : Nat.blt d n = true := by rfl) : wpQuiet P ops C Q (o :: rest) a := JfA S hg hd hn hy k
theorem qH (E : TypeId) {x : Operand} {ad : Option Addr} {l c : Nat} {T : TypeId} (S : SeesD ds n a L) {d : Option Tmp} {t : TypeId} {p : String} {e : Array Edge} {g : Option (Nat × Bool)} (hx : val L x = some (.slice ad l c) := by rfl) (hU : P.underlying T = some (.slice E) := by kernel_rfl) :
 Je P a ⟨d, .call { callee := .builtin .len, args := #[x], argTypes := #[T] }, t, p, e, g⟩ w (.int .i64 l) := Dn S hx hU
theorem kR {md : Region.Mode} {nk : List Nat} {f : Nat} {listed : Array Bool} (i : Nat) (S : SeesD ds n a L) (hi : ops[i]? = some o) (M : Mem w0 w H) (hy : ∀ W, Mem w0 W H → Je P a o W v) (k : ∀ a, SeesD ds n a ((d, v) :: L) → wpK P md ops nk Q f (listed.setIfInBounds i true) a w)
 (hg : gd ops L o = some true := by rfl) (hd : o.dst = some d := by rfl) (hn : Nat.blt d n = true := by rfl) (hst : Yk md ops nk listed i = true := by kernel_rfl) (hQ : ∀ c (d : Option Tmp) (u : Value) (a : Act) w, Q (.panic c) (a.put d u) w → Q (.panic c) a w := by intro _ d _ _ _ h; cases d <;> exact h) : wpK P md ops nk Q (f + 1) listed a w := Eg i S hi (fun W hW => hy W (M.grow hW)) k hg hd hn hst hQ
theorem qL2 {x : Operand} {b o t : Nat} {c : Array Value} {T : TypeId} {c0 c1 : Value} (S : SeesD ds n a L) (M : Mem w0 w H) (p : Nat) {d : Option Tmp} {ty : TypeId} {ps : String} {ed : Array Edge} {g : Option (Nat × Bool)} (hT : vB P t = some 2 := by kernel_rfl) (hx : val L x = some (.pointer (some ⟨b, o, none⟩)) := by rfl) (hp : H[p]? = some (.blk b c T) := by rfl) (hc : Vs c.toList o 2 = some [c0, c1] := by rfl) :
 Je P a ⟨d, .load t x, ty, ps, ed, g⟩ w (.agg #[c0, c1]) := Ja S hT hx rfl (M.cellsAt p hp hc)
theorem qL3 {x : Operand} {b o t : Nat} {c : Array Value} {T : TypeId} {c0 c1 c2 : Value} (S : SeesD ds n a L) (M : Mem w0 w H) (p : Nat) {d : Option Tmp} {ty : TypeId} {ps : String} {ed : Array Edge} {g : Option (Nat × Bool)} (hT : vB P t = some 3 := by kernel_rfl) (hx : val L x = some (.pointer (some ⟨b, o, none⟩)) := by rfl) (hp : H[p]? = some (.blk b c T) := by rfl) (hc : Vs c.toList o 3 = some [c0, c1, c2] := by rfl) :
 Je P a ⟨d, .load t x, ty, ps, ed, g⟩ w (.agg #[c0, c1, c2]) := Ja S hT hx rfl (M.cellsAt p hp hc)
theorem qL6 {x : Operand} {b o t : Nat} {c : Array Value} {T : TypeId} {c0 c1 c2 c3 c4 c5 : Value} (S : SeesD ds n a L) (M : Mem w0 w H) (p : Nat) {d : Option Tmp} {ty : TypeId} {ps : String} {ed : Array Edge} {g : Option (Nat × Bool)} (hT : vB P t = some 6 := by kernel_rfl) (hx : val L x = some (.pointer (some ⟨b, o, none⟩)) := by rfl) (hp : H[p]? = some (.blk b c T) := by rfl) (hc : Vs c.toList o 6 = some [c0, c1, c2, c3, c4, c5] := by rfl) :
 Je P a ⟨d, .load t x, ty, ps, ed, g⟩ w (.agg #[c0, c1, c2, c3, c4, c5]) := Ja S hT hx rfl (M.cellsAt p hp hc)
theorem qL8 {x : Operand} {b o t : Nat} {c : Array Value} {T : TypeId} {c0 c1 c2 c3 c4 c5 c6 c7 : Value} (S : SeesD ds n a L) (M : Mem w0 w H) (p : Nat) {d : Option Tmp} {ty : TypeId} {ps : String} {ed : Array Edge} {g : Option (Nat × Bool)} (hT : vB P t = some 8 := by kernel_rfl) (hx : val L x = some (.pointer (some ⟨b, o, none⟩)) := by rfl) (hp : H[p]? = some (.blk b c T) := by rfl) (hc : Vs c.toList o 8 = some [c0, c1, c2, c3, c4, c5, c6, c7] := by rfl) :
 Je P a ⟨d, .load t x, ty, ps, ed, g⟩ w (.agg #[c0, c1, c2, c3, c4, c5, c6, c7]) := Ja S hT hx rfl (M.cellsAt p hp hc)
def AtN (_ : Nat) (p : Prop) : Prop := p
theorem WG {x : Operand} {b o k s f : Nat} (S : SeesD ds n a L) (hF : Gp P s f = some k) (hx : val L x = some (.pointer (some ⟨b, o, none⟩))) {d : Option Tmp} {t : TypeId} {p : String} {e : Array Edge} {g : Option (Nat × Bool)} :
 AtN k (Je P a ⟨d, .fieldAddr s x f, t, p, e, g⟩ w (.pointer (some ⟨b, o + k, none⟩))) := VH S hF hx
section
variable {md : Region.Mode} {nk : List Nat} {C : World → Prop} {f : Nat} {listed : Array Bool}
theorem kP (i : Nat) (S : SeesD ds n a L) (k : ∀ a, SeesD ds n a ((d, v) :: L) → wpK P md ops nk Q f (listed.setIfInBounds i true) a w) (hi : ops[i]? = some o := by rfl)
 (hy : SeesD ds n a L → ∀ W, Je P a o W v := by intro S w; first | exact Vz S rfl | exact JP S rfl | exact jT S rfl | exact GH S rfl rfl)
 (hg : gd ops L o = some true := by rfl) (hd : o.dst = some d := by rfl) (hn : Nat.blt d n = true := by rfl) (hst : Yk md ops [] listed i = true := by kernel_rfl) (hQ : ∀ c (d : Option Tmp) (u : Value) (a : Act) w, Q (.panic c) (a.put d u) w → Q (.panic c) a w := by intro _ d _ _ _ h; cases d <;> exact h) : wpK P md ops nk Q (f + 1) listed a w := Jj i S hi (hy S) k hg hd hn hst hQ
theorem kF (i j : Nat) (S : SeesD ds n a L) (k : ∀ a, SeesD ds n a ((d, v) :: L) → wpK P md ops nk Q f (listed.setIfInBounds i true) a w) (hi : ops[i]? = some o := by rfl)
 (hy : SeesD ds n a L → ∀ W, AtN j (Je P a o W v) := by intro S w; exact WG S k_ rfl)
 (hg : gd ops L o = some true := by rfl) (hd : o.dst = some d := by rfl) (hn : Nat.blt d n = true := by rfl) (hst : Yk md ops [] listed i = true := by kernel_rfl) (hQ : ∀ c (d : Option Tmp) (u : Value) (a : Act) w, Q (.panic c) (a.put d u) w → Q (.panic c) a w := by intro _ d _ _ _ h; cases d <;> exact h) : wpK P md ops nk Q (f + 1) listed a w := Jj i S hi (hy S) k hg hd hn hst hQ
theorem kcP (i : Nat) (S : SeesD ds n a L) (hC : C w) (k : ∀ a, SeesD ds n a ((d, v) :: L) → Zu P md ops nk C Q f (listed.setIfInBounds i true) a w) (hi : ops[i]? = some o := by rfl)
 (hy : SeesD ds n a L → ∀ W, Je P a o W v := by intro S w; first | exact Vz S rfl | exact JP S rfl | exact jT S rfl | exact GH S rfl rfl)
 (hg : gd ops L o = some true := by rfl) (hd : o.dst = some d := by rfl) (hn : Nat.blt d n = true := by rfl) (hst : Yk md ops [] listed i = true := by kernel_rfl) (hQ : ∀ c (d : Option Tmp) (u : Value) (a : Act) w, Q (.panic c) (a.put d u) w → Q (.panic c) a w := by intro _ d _ _ _ h; cases d <;> exact h) : Zu P md ops nk C Q (f + 1) listed a w := JT i S hi hC (fun W _ => hy S W) k hg hd hn hst hQ
theorem kcF (i j : Nat) (S : SeesD ds n a L) (hC : C w) (k : ∀ a, SeesD ds n a ((d, v) :: L) → Zu P md ops nk C Q f (listed.setIfInBounds i true) a w) (hi : ops[i]? = some o := by rfl)
 (hy : SeesD ds n a L → ∀ W, AtN j (Je P a o W v) := by intro S w; exact WG S k_ rfl)
 (hg : gd ops L o = some true := by rfl) (hd : o.dst = some d := by rfl) (hn : Nat.blt d n = true := by rfl) (hst : Yk md ops [] listed i = true := by kernel_rfl) (hQ : ∀ c (d : Option Tmp) (u : Value) (a : Act) w, Q (.panic c) (a.put d u) w → Q (.panic c) a w := by intro _ d _ _ _ h; cases d <;> exact h) : Zu P md ops nk C Q (f + 1) listed a w := JT i S hi hC (fun W _ => hy S W) k hg hd hn hst hQ
end
def Q9 (L : List (Nat × Value)) : List Nat → Option (List (Nat × Value))
 | [] => some []
 | t :: ts => match JK L t, Q9 L ts with
   | some v, some l => some ((t, v) :: l)
   | _, _ => none
theorem Q8 (L : List (Nat × Value)) : ∀ (ts : List Nat) (L' : List (Nat × Value)), Q9 L ts = some L' → Vl L (L'.map fun p => .tmp p.1) = some (L'.map (·.2))
 | [], L', h => by cases h; rfl
 | t :: ts, L', h => by
   rw [Q9] at h
   cases h1 : JK L t with
   | none => grind
   | some v =>
     cases h2 : Q9 L ts with
     | none => grind
     | some l =>
       rw [h1, h2] at h
       cases h
       have := Q8 L ts l h2
       grind [Vl, val]
theorem SeesD.keep (S : SeesD ds n a L) (ts : List Nat) {L' : List (Nat × Value)} (h : Q9 L ts = some L' := by rfl) : SeesD ds n a L' := S.sub L' (Q8 L ts L' h)
end
theorem Mem.drp {w0 w : World} {H H' : List Ent} (M : Mem w0 w H) (n : Nat) (h : H.eraseIdx n = H' := by (simp only [List.eraseIdx_cons_succ, List.eraseIdx_cons_zero]; try rfl)) : Mem w0 w H' := h ▸ M.drop n
theorem Mem.frn {w0 w : World} {H H' : List Ent} {e : Ent} (M : Mem w0 w H) (n : Nat) (hp : H[n]? = some e := by rfl) (h : e :: H.eraseIdx n = H' := by (simp only [List.eraseIdx_cons_succ, List.eraseIdx_cons_zero]; try rfl)) : Mem w0 w H' := h ▸ M.front n hp
abbrev cz0 : List Value := [.int .i8 0, .int .i64 0, .int .i64 0, .int .i64 0, .int .i64 0, .int .i64 0, .int .i64 0, .int .i64 0, .int .i64 0, .int .i8 0, .int .i64 0, .int .u8 0, .int .u8 0, .int .u8 0, .int .u8 0, .int .u8 0, .int .u8 0, .int .u8 0, .int .u8 0, .int .i64 0, .bool false, .int .i64 0, .int .i64 0, .slice none 0 0]
abbrev cz1 : List Value := [.int .i64 0, .int .i64 0, .int .i64 0, .int .i64 0, .bool false, .int .i8 0, .int .i64 0, .int .i64 0, .int .i64 0, .int .i64 0, .int .i64 0, .int .i64 0, .int .i64 0, .int .i64 0, .int .i8 0, .int .i64 0, .int .u8 0, .int .u8 0, .int .u8 0, .int .u8 0, .int .u8 0, .int .u8 0, .int .u8 0, .int .u8 0, .int .i64 0, .bool false, .int .i64 0, .int .i64 0, .slice none 0 0, .int .i8 0, .int .i64 0, .int .i64 0, .int .i64 0, .int .i64 0, .int .i64 0, .int .i64 0, .int .i64 0, .int .i64 0, .int .i8 0, .int .i64 0, .int .u8 0, .int .u8 0, .int .u8 0, .int .u8 0, .int .u8 0, .int .u8 0, .int .u8 0, .int .u8 0, .int .i64 0, .bool false, .int .i64 0, .int .i64 0, .slice none 0 0, .slice none 0 0]
abbrev cz2 : Array Value := #[.int .i64 0, .int .i64 0, .int .i64 0, .int .i64 0, .int .i64 0, .int .i64 0, .int .i64 0, .int .i64 0, .int .i64 0, .int .i64 0, .int .i64 0, .int .i64 0, .int .i64 0]
abbrev cz3 : Array Value := #[.int .i8 0, .int .i64 0, .int .i64 0, .int .i64 0, .int .i64 0, .int .i64 0, .int .i64 0, .int .i64 0, .int .i64 0, .int .i8 0, .int .i64 0, .int .u8 0, .int .u8 0, .int .u8 0, .int .u8 0, .int .u8 0, .int .u8 0, .int .u8 0, .int .u8 0, .int .i64 0, .bool false, .int .i64 0, .int .i64 0, .slice none 0 0]
abbrev cz4 : Array Value := #[.int .i8 0, .int .i64 0, .int .i64 0, .int .i64 0, .bool false, .slice none 0 0, .int .i64 0, .int .i64 0, .int .i64 0, .int .i64 0, .int .i64 0, .int .i64 0]
abbrev cz5 : List Value := [.int .i64 0, .int .i64 0, .int .i64 0, .int .i64 0, .int .i64 0, .int .i64 0, .int .i64 0, .int .i64 0, .int .i64 0, .int .i64 0, .int .i64 0, .int .i64 0, .int .i64 0]
abbrev cz6 : Array Value := #[.int .i64 0, .int .i64 0, .int .i64 0, .int .i64 0, .bool false, .int .i8 0, .int .i64 0, .int .i64 0, .int .i64 0, .int .i64 0, .int .i64 0, .int .i64 0, .int .i64 0, .int .i64 0, .int .i8 0, .int .i64 0, .int .u8 0, .int .u8 0, .int .u8 0, .int .u8 0, .int .u8 0, .int .u8 0, .int .u8 0, .int .u8 0, .int .i64 0, .bool false, .int .i64 0, .int .i64 0, .slice none 0 0, .int .i8 0, .int .i64 0, .int .i64 0, .int .i64 0, .int .i64 0, .int .i64 0, .int .i64 0, .int .i64 0, .int .i64 0, .int .i8 0, .int .i64 0, .int .u8 0, .int .u8 0, .int .u8 0, .int .u8 0, .int .u8 0, .int .u8 0, .int .u8 0, .int .u8 0, .int .i64 0, .bool false, .int .i64 0, .int .i64 0, .slice none 0 0, .slice none 0 0]
abbrev cz7 : List Value := [.int .i8 0, .int .i64 0, .int .i64 0, .int .i64 0, .bool false, .slice none 0 0, .int .i64 0, .int .i64 0, .int .i64 0, .int .i64 0, .int .i64 0, .int .i64 0]
abbrev cz8 : List (Nat × Nat) := [(0, 1), (1, 1), (2, 1), (3, 1), (4, 1), (5, 3), (8, 1), (9, 1), (10, 1), (11, 8), (19, 1), (20, 1), (21, 1), (22, 1), (23, 1)]
abbrev cz9 : List Value := [.int .i64 0, .int .i64 0, .int .i64 0, .int .i64 0, .bool false]
abbrev zz : Array Value := #[.int .i64 0, .int .i64 0, .int .i64 0, .slice none 0 0, .int .i64 0, .int .i64 0]
abbrev zy : List Value := [.int .i64 0, .int .i64 0, .int .i64 0, .slice none 0 0, .int .i64 0, .int .i64 0]
abbrev yg : Array Value := #[.int .i64 0, .int .i64 0, .int .i64 0, .int .i64 0, .bool false]
abbrev Kj : Array Value := #[.int .u8 0, .int .u8 0, .int .u8 0, .int .u8 0, .int .u8 0, .int .u8 0, .int .u8 0, .int .u8 0]
abbrev Ki : List Value := [.int .u8 0, .int .u8 0, .int .u8 0, .int .u8 0, .int .u8 0, .int .u8 0, .int .u8 0, .int .u8 0]
abbrev VW : List Value := [.int .i64 0, .int .i64 0]
abbrev ZA : List Value := [.int .i64 0, .int .i64 0, .int .i64 0]
abbrev zx : Array Value := #[.slice none 0 0, .slice none 0 0, .slice none 0 0, .slice none 0 0]
abbrev Gs : List (Nat × Nat) := [(0, 1), (1, 3), (4, 1), (5, 1), (6, 1), (7, 1), (8, 1), (9, 2), (11, 1)]
abbrev Ww : Array Value := #[.int .i64 0, .int .u8 0, .int .u8 0, .int .u8 0, .int .u8 0, .int .u8 0, .int .u8 0, .int .u8 0, .int .u8 0]
abbrev Zz : Array Value := #[.slice none 0 0, .slice none 0 0]
abbrev Wv : List Value := [.int .i64 0, .int .u8 0, .int .u8 0, .int .u8 0, .int .u8 0, .int .u8 0, .int .u8 0, .int .u8 0, .int .u8 0]
abbrev Jch : Array Value := #[.bool false, .bool false, .bool false, .bool false, .bool false, .bool false, .bool false, .bool false, .bool false, .bool false, .bool false]
abbrev Ji8 : Array Value := #[.int .i64 0, .int .i64 0, .int .i64 0, .int .i64 0, .int .i64 0, .int .i64 0, .int .i64 0, .int .i64 0, .int .i64 0, .int .i64 0, .int .i64 0, .int .i64 0, .int .i64 0, .int .i64 0, .int .i64 0, .int .i64 0, .int .i64 0, .int .i64 0, .int .i64 0, .int .i64 0, .int .i64 0, .int .i64 0, .int .i64 0, .int .i64 0, .int .i64 0, .int .i64 0, .int .i64 0, .int .i64 0, .int .i64 0, .int .i64 0, .int .i64 0, .int .i64 0]
abbrev Jgs : Array Value := #[.int .u32 0, .int .u32 0, .int .u32 0, .int .u32 0, .int .u32 0, .int .u32 0, .int .u32 0, .int .u32 0, .int .u32 0, .int .u32 0, .int .u32 0, .int .u32 0, .int .u32 0, .int .u32 0, .int .u32 0, .int .u32 0]
abbrev zw : List (Nat × Nat) := [(0, 1), (1, 1), (2, 1), (3, 1), (4, 1), (5, 8)]
abbrev Zy : Array Value := #[.int .i64 0, .int .i64 0]
abbrev Ji7 : Array Value := #[.int .u8 0, .int .u8 0, .int .u8 0, .int .u8 0, .int .u8 0, .int .u8 0, .int .u8 0, .int .u8 0, .int .u8 0, .int .u8 0, .int .u8 0, .int .u8 0, .int .u8 0, .int .u8 0, .int .u8 0, .int .u8 0, .int .u8 0, .int .u8 0, .int .u8 0, .int .u8 0, .int .u8 0, .int .u8 0, .int .u8 0, .int .u8 0, .int .u8 0, .int .u8 0, .int .u8 0, .int .u8 0, .int .u8 0, .int .u8 0, .int .u8 0, .int .u8 0]
abbrev VD : List (Nat × Nat) := [(0, 1), (1, 1)]
abbrev Kh : List Value := [.int .i64 0, .int .i64 0, .int .i64 0, .int .i64 0]
abbrev Ey : Array Value := #[.int .i64 0, .int .i64 0, .int .i64 0, .int .i64 0, .int .u32 0, .slice none 0 0]
abbrev ZU : List (Nat × Nat) := [(0, 1), (1, 1), (2, 1)]
abbrev Ex : List Value := [.int .i64 0, .int .i64 0, .int .i64 0, .int .i64 0, .int .u32 0, .slice none 0 0]
abbrev Qp : Array Value := #[.slice none 0 0, .slice none 0 0, .slice none 0 0]
abbrev Kg : Array Value := #[.int .i64 0, .int .i64 0, .int .i64 0]
abbrev Kf : List Value := [.slice none 0 0, .slice none 0 0]
abbrev Ym : List Value := [.int .u8 0]
abbrev Jgr : Array Value := #[.nilFunc, .nilFunc, .nilFunc, .nilFunc, .nilFunc, .nilFunc, .nilFunc, .nilFunc]
abbrev Jgq : List Value := [.nilFunc, .nilFunc, .nilFunc, .nilFunc, .nilFunc, .nilFunc, .nilFunc, .nilFunc]
abbrev Ji6 : List Value := [.bool false, .bool false, .bool false, .bool false, .bool false, .bool false, .bool false, .bool false, .bool false, .bool false, .bool false]
abbrev Jgp : Array Value := #[.int .i64 0, .int .i64 0, .slice none 0 0, .slice none 0 0, .int .i64 0]
abbrev Ji5 : List Value := [.int .i64 0, .int .i64 0, .int .i64 0, .int .i64 0, .int .i64 0, .int .i64 0, .int .i64 0, .int .i64 0, .int .i64 0, .int .i64 0]
abbrev Jcg : List (Nat × Nat) := [(0, 1), (1, 1), (2, 1), (3, 1), (4, 1), (5, 1)]
abbrev Jgo : List Value := [.int .i64 0, .int .i64 0, .int .i64 0, .bool false]
abbrev Jgn : List (Nat × Nat) := [(0, 13), (13, 2), (15, 256), (271, 1), (272, 1)]
abbrev Ji4 : List Value := [.slice none 0 0, .slice none 0 0, .slice none 0 0, .slice none 0 0]
section
variable {ds : List Deferred} {P : Program} {ops : Array Oper} {Q : Exit → Act → World → Prop} {rest : List Oper} {n d : Nat} {a : Act} {L : List (Nat × Value)} {w w0 : World} {v : Value} {o : Oper} {H : List Ent} {cs : List (List Nat)} {l hs : List Nat} {k i : Nat} {X : Act → World → Prop} {E : World → Prop} {c x y : Code} {next : Act → World → Prop}
def QF : Nat → List Value → Option (List Value)
 | 0, _ => some []
 | k + 1, c :: l => match QF k l with
   | some r => some (c :: r)
   | none => none
 | _ + 1, [] => none
def Ez : List Value → Nat → Nat → Option (List Value)
 | l, 0, k => QF k l
 | _ :: l, o + 1, k => Ez l o k
 | [], _ + 1, _ => none
theorem WJ : ∀ (k : Nat) (l r : List Value), QF k l = some r → r.length = k ∧ Vs l 0 k = some r
 | 0, l, r, h => by cases h; exact ⟨rfl, by cases l <;> rfl⟩
 | k + 1, [], r, h => by cases h
 | k + 1, c :: l, r, h => by
   rw [QF] at h
   cases h1 : QF k l with
   | none => grind
   | some q =>
     rw [h1] at h; cases h
     obtain ⟨h2, h3⟩ := WJ k l q h1
     grind [Vs]
theorem jE : ∀ {l : List Value} {o k : Nat} {r : List Value}, Ez l o k = some r → r.length = k ∧ Vs l o k = some r
 | l, 0, k, r, h => WJ k l r (by cases l <;> exact h)
 | _ :: l, o + 1, k, r, h => by
   have := jE (l := l) (o := o) (k := k) h
   grind [Vs]
 | [], _ + 1, _, _, h => by cases h
theorem rT_ {t : Nat} (h : JK L t = some v := by rfl) : ja P w L (.tmp t) v := h
theorem rA_ (k p : Nat) (M : Mem w0 w H) {t T b o : Nat} {c : Array Value} {T' : TypeId} {us : List Value} (ht : JK L t = some (.pointer (some ⟨b, o, none⟩)) := by rfl) (hp : H[p]? = some (.blk b c T') := by rfl) (hc : Ez c.toList o k = some us := by rfl) (hT : vB P T = some k := by kernel_rfl) : ja P w L (.cell t T) (.agg us.toArray) := Y8 hT ht (jE hc).1 (M.cellsAt p hp (jE hc).2)
theorem rv_ {y : Value} {p : Value → Prop} (h : p y) : ∃ v, Ending.returned y = .returned v ∧ p v := ⟨y, rfl, h⟩
theorem Mem.od (M : Mem w0 w H) (is : List Nat) {H' : List Ent} (h : D4 is H = some H' := by simp only [D4, oG, oS, oE, oZ, oB] <;> rfl) : Mem w0 w H' := M.ord is h
theorem SeesD.n_ (S : SeesD ds n a L) {L' : List (Nat × Value)} (h : L = L' := by (try simp only [Int.toNat_natCast, Nat.mul_one, Nat.zero_add]); rfl) : SeesD ds n a L' := h ▸ S
theorem Mem.s_ (M : Mem w0 w H) {H' : List Ent} (h : H = H' := by (simp only [List.set_cons_zero, List.set_cons_succ]); rfl) : Mem w0 w H' := h ▸ M
theorem Mem.c_ (M : Mem w0 w H) {H' : List Ent} (h : H = H' := by (simp only [List.cons_append, List.nil_append]); rfl) : Mem w0 w H' := h ▸ M
theorem Mem.e_ (M : Mem w0 w H) {H' : List Ent} (h : H = H' := by (simp only [List.eraseIdx_cons_succ, List.eraseIdx_cons_zero]); rfl) : Mem w0 w H' := h ▸ M
theorem qP_ {t e sz by_ lo hi lo' hi' m : Nat} {zc xs news : List Value} {u x : Value} {s y : Operand} (S : SeesD ds n a L) (M : Mem w0 w H) (pos : Nat) {k : Nat} {d : Nat} {ty : TypeId} {p : String} {ed : Array Edge} {g : Option (Nat × Bool)} (hs : val L s = some u) (hy : val L y = some x) (hp : H[pos]? = some (Jd lo hi e sz u k xs)) (hx : Rd lo' hi' w sz x m news)
 (kk : ∀ a w v' l' h', SeesD ds n a ((d, v') :: L) → Mem w0 w (Jd l' h' e sz v' (k + m) (xs ++ news) :: H.eraseIdx pos) → wpList P ops Q rest a w) (h1 : Jp news = true := by rfl) (hb : (k + m) * by_ ≤ 140737488355328 := by omega) (h63 : k + m ≤ maxLen := by unfold maxLen; omega)
 (hg : gd ops L ⟨some d, .call { callee := .builtin .append, args := #[s, y], argTypes := #[t, t] }, ty, p, ed, g⟩ = some true := by rfl) (hn : Nat.blt d n = true := by rfl) (hI : VO P t = some (e, sz, by_, zc) := by kernel_rfl) (hzs : zc.length = sz := by rfl) (hsz : 0 < sz := by decide) :
 wpList P ops Q (⟨some d, .call { callee := .builtin .append, args := #[s, y], argTypes := #[t, t] }, ty, p, ed, g⟩ :: rest) a w := JI S M pos hg hn hI hzs hsz hs hy hp hx h1 hb h63 kk
theorem qW_ {x : Operand} {T : TypeId} {us : List Value} (S : SeesD ds n a L) (M : Mem w0 w H) {d : Nat} {t : TypeId} {p : String} {e : Array Edge} {g : Option (Nat × Bool)}
 (k : ∀ a w' b, SeesD ds n a ((d, .pointer (some ⟨b, 0, none⟩)) :: L) → Mem w0 w' (.blk b us.toArray T :: H) → Below w.heap.size w w' → wpList P ops Q rest a w') (hx : val L x = some (.agg us.toArray) := by rfl)
 (hg : gd ops L ⟨some d, .box T x, t, p, e, g⟩ = some true := by rfl) (hn : Nat.blt d n = true := by rfl) : wpList P ops Q (⟨some d, .box T x, t, p, e, g⟩ :: rest) a w := VA S M hg hn hx us.toArray rfl k
section
variable {md : Region.Mode} {nk : List Nat} {f : Nat} {listed : Array Bool}
theorem k1_ (i : Nat) (h : wpList P ops (Exit.then (fun a' w' => (nk.contains i = false → Below w.heap.size w w') ∧ wpK P md ops nk Q f (listed.setIfInBounds i true) a' w') Q) [o] a w) (hi : ops[i]? = some o := by rfl) (hr : Nat.beq (Region.ready md ops listed).length 1 && (Region.ready md ops listed).contains i = true := by kernel_rfl) : wpK P md ops nk Q (f + 1) listed a w := JgX i hi hr h
theorem kE_ (h : Q .normal a w) (hr : (Region.ready md ops listed).isEmpty = true := by kernel_rfl) : wpK P md ops nk Q 0 listed a w := JgY hr h
theorem kn_ {W : World} {Y : Act → World → Prop} (h : Y a w) (hnk : nk.contains i = true := by rfl) : wpList P ops (Exit.then (fun a' w' => (nk.contains i = false → Below W.heap.size W w') ∧ Y a' w') Q) [] a w := wpList_nil (Jn ⟨fun e => absurd (hnk.symm.trans e) d_, h⟩)
theorem kH_ {W : World} {Y : Act → World → Prop} (hK : Below W.heap.size W w) (h : Y a w) : wpList P ops (Exit.then (fun a' w' => (nk.contains i = false → Below W.heap.size W w') ∧ Y a' w') Q) [] a w := wpList_nil (Jn ⟨fun _ => hK, h⟩)
end
def TT (ds : List Deferred) (n : Nat) (L : List (Nat × Value)) (w0 : World) (H : List Ent) (E : World → Prop) (_ : List (List Nat)) (X : Act → World → Prop) : Prop := ∀ a w, SeesD ds n a L → Mem w0 w H → E w → X a w
theorem US (l : List Value) : (Value.agg l.toArray).cells.toList = l := rfl
abbrev TW : World → Prop := fun _ => True
def AtC (_ : List (List Nat)) (G : Prop) : Prop := G
theorem Jg9 (S : SeesD ds n a L) (M : Mem w0 w H) (h : TT ds n L w0 H TW cs (wpList P ops Q rest)) : AtC cs (wpList P ops Q rest a w) := h a w S M trivial
theorem Dd (S : SeesD ds n a L) (M : Mem w0 w H) (h : TT ds n L w0 H (fun w9 => w9 = w) cs (wpList P ops Q rest)) : AtC cs (wpList P ops Q rest a w) := h a w S M rfl
theorem Jg8 (S : SeesD ds n a L) (M : Mem w0 w H) (h : TT ds n L w0 H TW cs (c.wp P Q)) : AtC cs (c.wp P Q a w) := h a w S M trivial
theorem Dc (S : SeesD ds n a L) (M : Mem w0 w H) (h : TT ds n L w0 H (fun w9 => w9 = w) cs (c.wp P Q)) : AtC cs (c.wp P Q a w) := h a w S M rfl
theorem Jg7 {e : Exit} (S : SeesD ds n a L) (M : Mem w0 w H) (h : TT ds n L w0 H TW cs (Exit.then next Q e)) : AtC cs (Exit.then next Q e a w) := h a w S M trivial
theorem Db {e : Exit} (S : SeesD ds n a L) (M : Mem w0 w H) (h : TT ds n L w0 H (fun w9 => w9 = w) cs (Exit.then next Q e)) : AtC cs (Exit.then next Q e a w) := h a w S M rfl
theorem Jg6 {e : Exit} (S : SeesD ds n a L) (M : Mem w0 w H) (h : TT ds n L w0 H TW cs (Exit.inBlock i Q e)) : AtC cs (Exit.inBlock i Q e a w) := h a w S M trivial
theorem Da {e : Exit} (S : SeesD ds n a L) (M : Mem w0 w H) (h : TT ds n L w0 H (fun w9 => w9 = w) cs (Exit.inBlock i Q e)) : AtC cs (Exit.inBlock i Q e a w) := h a w S M rfl
theorem Jg5 {md : Region.Mode} {nk : List Nat} {f : Nat} {listed : Array Bool} (S : SeesD ds n a L) (M : Mem w0 w H) (h : TT ds n L w0 H TW cs (wpK P md ops nk Q f listed)) : AtC cs (wpK P md ops nk Q f listed a w) := h a w S M trivial
theorem Jhc {md : Region.Mode} {nk : List Nat} {f : Nat} {listed : Array Bool} (S : SeesD ds n a L) (M : Mem w0 w H) (h : TT ds n L w0 H (fun w9 => w9 = w) cs (wpK P md ops nk Q f listed)) : AtC cs (wpK P md ops nk Q f listed a w) := h a w S M rfl
theorem Jg4 {C : World → Prop} {R : Act → Prop} (S : SeesD ds n a L) (M : Mem w0 w H) (h : TT ds n L w0 H TW cs (fun a _ => wpQuiet P ops C R rest a)) : AtC cs (wpQuiet P ops C R rest a) := h a w S M trivial
theorem Jhb {C : World → Prop} {R : Act → Prop} (S : SeesD ds n a L) (M : Mem w0 w H) (h : TT ds n L w0 H (fun w9 => w9 = w) cs (fun a _ => wpQuiet P ops C R rest a)) : AtC cs (wpQuiet P ops C R rest a) := h a w S M rfl
theorem Jg3 {e : Exit} {fn : Func} {R : Ending → World → Prop} (S : SeesD ds n a L) (M : Mem w0 w H) (h : TT ds n L w0 H TW cs (bodyPost P fn R e)) : AtC cs (bodyPost P fn R e a w) := h a w S M trivial
theorem Jha {e : Exit} {fn : Func} {R : Ending → World → Prop} (S : SeesD ds n a L) (M : Mem w0 w H) (h : TT ds n L w0 H (fun w9 => w9 = w) cs (bodyPost P fn R e)) : AtC cs (bodyPost P fn R e a w) := h a w S M rfl
theorem Jg2 {y : Value} (M : Mem w0 w H) (h : TT ds n ((d, y) :: L) w0 H TW cs (wpList P ops Q rest)) : AtC cs (∃ v', Ending.returned y = .returned v' ∧ ∀ a, SeesD ds n a ((d, v') :: L) → wpList P ops Q rest a w) := ⟨y, rfl, fun a S => h a w S M trivial⟩
theorem X9 {y : Value} (M : Mem w0 w H) (h : TT ds n ((d, y) :: L) w0 H (fun w9 => w9 = w) cs (wpList P ops Q rest)) : AtC cs (∃ v', Ending.returned y = .returned v' ∧ ∀ a, SeesD ds n a ((d, v') :: L) → wpList P ops Q rest a w) := ⟨y, rfl, fun a S => h a w S M rfl⟩
theorem Jg1 (M : Mem w0 w H) (h : TT ds n L w0 H TW cs (wpList P ops Q rest)) : AtC cs (∀ a, SeesD ds n a L → wpList P ops Q rest a w) := fun a S => h a w S M trivial
theorem X8 (M : Mem w0 w H) (h : TT ds n L w0 H (fun w9 => w9 = w) cs (wpList P ops Q rest)) : AtC cs (∀ a, SeesD ds n a L → wpList P ops Q rest a w) := fun a S => h a w S M rfl
theorem Jet {md : Region.Mode} {nk : List Nat} {f : Nat} {listed : Array Bool} (M : Mem w0 w H) (h : TT ds n L w0 H TW cs (wpK P md ops nk Q f listed)) : AtC cs (∀ a, SeesD ds n a L → wpK P md ops nk Q f listed a w) := fun a S => h a w S M trivial
theorem Jev {md : Region.Mode} {nk : List Nat} {f : Nat} {listed : Array Bool} (M : Mem w0 w H) (h : TT ds n L w0 H (fun w9 => w9 = w) cs (wpK P md ops nk Q f listed)) : AtC cs (∀ a, SeesD ds n a L → wpK P md ops nk Q f listed a w) := fun a S => h a w S M rfl
theorem Jes {C : World → Prop} {R : Act → Prop} (M : Mem w0 w H) (h : TT ds n L w0 H TW cs (fun a _ => wpQuiet P ops C R rest a)) : AtC cs (∀ a, SeesD ds n a L → wpQuiet P ops C R rest a) := fun a S => h a w S M trivial
theorem Jeu {C : World → Prop} {R : Act → Prop} (M : Mem w0 w H) (h : TT ds n L w0 H (fun w9 => w9 = w) cs (fun a _ => wpQuiet P ops C R rest a)) : AtC cs (∀ a, SeesD ds n a L → wpQuiet P ops C R rest a) := fun a S => h a w S M rfl
theorem Jer (M : Mem w0 w H) (h : TT ds n L w0 H TW cs (c.wp P Q)) : AtC cs (∀ a, SeesD ds n a L → c.wp P Q a w) := fun a S => h a w S M trivial
theorem UG (M : Mem w0 w H) (h : TT ds n L w0 H (fun w9 => w9 = w) cs (c.wp P Q)) : AtC cs (∀ a, SeesD ds n a L → c.wp P Q a w) := fun a S => h a w S M rfl
-- control
theorem XP (h : TT ds n L w0 H E cs X) : TT ds n L w0 H E ([0] :: cs) X := h
theorem X7 (h : TT ds n L w0 H E ((k :: l) :: cs) (Q .normal)) : TT ds n L w0 H E (((k + 1) :: l) :: cs) (wpList P ops Q []) := fun a w S M e => wpList_nil (h a w S M e)
theorem X6 (h : TT ds n L w0 H E ((k :: l) :: cs) next) : TT ds n L w0 H E (((k + 1) :: l) :: cs) (Exit.then next Q .normal) := fun a w S M e => Jn (h a w S M e)
theorem X5 (h : TT ds n L w0 H E ((k :: l) :: cs) (x.wp P (Exit.then (y.wp P Q) Q))) : TT ds n L w0 H E (((k + 1) :: l) :: cs) ((Code.seq x y).wp P Q) := fun a w S M e => wp_seq (h a w S M e)
theorem X4 {r : List Oper} (h : TT ds n L w0 H E ((k :: l) :: cs) (wpList P r.toArray Q r)) : TT ds n L w0 H E (((k + 1) :: l) :: cs) ((Code.region i r.toArray false).wp P Q) := fun a w S M e => wp_region_lit (h a w S M e)
theorem X3 {b : Operand} (h : TT ds n L w0 H E ((k :: l) :: cs) (x.wp P Q)) (hb : val L b = some (.bool true) := by rfl) : TT ds n L w0 H E (((k + 1) :: l) :: cs) ((Code.cond b x y).wp P Q) := fun a w S M e => DE S hb (h a w S M e)
theorem XZ {b : Operand} (h : TT ds n L w0 H E ((k :: l) :: cs) (y.wp P Q)) (hb : val L b = some (.bool false) := by rfl) : TT ds n L w0 H E (((k + 1) :: l) :: cs) ((Code.cond b x y).wp P Q) := fun a w S M e => DF S hb (h a w S M e)
theorem XY (h : TT ds n L w0 H E ((k :: l) :: cs) (Q .normal)) : TT ds n L w0 H E (((k + 1) :: l) :: cs) (Code.skip.wp P Q) := fun a w S M e => wp_skip (h a w S M e)
theorem XX (h : TT ds n L w0 H E ((k :: l) :: cs) (c.wp P (Exit.inBlock i Q))) : TT ds n L w0 H E (((k + 1) :: l) :: cs) ((Code.block i c).wp P Q) := fun a w S M e => wp_block (h a w S M e)
theorem XW (h : TT ds n L w0 H E ((k :: l) :: cs) (Q .normal)) : TT ds n L w0 H E (((k + 1) :: l) :: cs) (Exit.inBlock i Q .normal) := fun a w S M e => Jy (h a w S M e)
theorem UF (h : TT ds n L w0 H E ((k :: l) :: cs) (Q (.exit i))) : TT ds n L w0 H E (((k + 1) :: l) :: cs) ((Code.exit i).wp P Q) := fun a w S M e => wp_exit (h a w S M e)
theorem UE (h : TT ds n L w0 H E ((k :: l) :: cs) (Q (.exit i))) : TT ds n L w0 H E (((k + 1) :: l) :: cs) (Exit.then next Q (.exit i)) := fun a w S M e => ZN (h a w S M e)
theorem UD (h : TT ds n L w0 H E ((k :: l) :: cs) (Q .normal)) : TT ds n L w0 H E (((k + 1) :: l) :: cs) (Exit.inBlock i Q (.exit i)) := fun a w S M e => jS (h a w S M e)
theorem UC {j : Nat} (h : TT ds n L w0 H E ((k :: l) :: cs) (Q (.exit j))) (hne : Nat.beq j i = false := by rfl) : TT ds n L w0 H E (((k + 1) :: l) :: cs) (Exit.inBlock i Q (.exit j)) := fun a w S M e => Jcv hne (h a w S M e)
theorem UB (h : TT ds n L w0 H E ((k :: l) :: cs) (Q .ret)) : TT ds n L w0 H E (((k + 1) :: l) :: cs) (Code.ret.wp P Q) := fun a w S M e => wp_ret (h a w S M e)
theorem UA (h : TT ds n L w0 H E ((k :: l) :: cs) (Q .ret)) : TT ds n L w0 H E (((k + 1) :: l) :: cs) (Exit.then next Q .ret) := fun a w S M e => Yu (h a w S M e)
theorem Uz (h : TT ds n L w0 H E ((k :: l) :: cs) (Q .ret)) : TT ds n L w0 H E (((k + 1) :: l) :: cs) (Exit.inBlock i Q .ret) := fun a w S M e => JeV (h a w S M e)
-- plain operations
theorem XT {L' : List (Nat × Value)} {A : List Nat} {rest' : List Oper} (h : TT ds n L' w0 H E cs (wpList P ops Q rest')) (hr : jx ops H n (k :: hs) L [] [] rest = some ⟨L', A, A, rest'⟩ := by rfl) (hc : zm P (k :: hs) rest = true := by kernel_rfl) : TT ds n L w0 H E ((0 :: k :: hs) :: cs) (wpList P ops Q rest) := fun _ _ S M e => DD (k :: hs) S M hr hc fun a S => h a _ S M e
theorem XV (h : TT ds n ((d, v) :: L) w0 H E cs (wpList P ops Q rest)) (hy : ∀ a w, SeesD ds n a L → Je P a o w v := by intro a w S; first | exact Zo S rfl rfl o_ | exact Qz S rfl rfl o_ | exact GG S rfl rfl o_ | exact J2 S rfl rfl rfl)
 (hg : gd ops L o = some true := by rfl) (hd : o.dst = some d := by rfl) (hn : Nat.blt d n = true := by rfl) : TT ds n L w0 H E ([901] :: cs) (wpList P ops Q (o :: rest)) := fun a w S M e => yb S hg hd hn (hy a w S) fun a S => h a w S M e
theorem XR {x : Operand} {b o t m : Nat} {c : Array Value} {T : TypeId} {us : List Value} {p : Nat} {ty : TypeId} {ps : String} {ed : Array Edge} {g : Option (Nat × Bool)} (h : TT ds n ((d, .agg us.toArray) :: L) w0 H E cs (wpList P ops Q rest))
 (hx : val L x = some (.pointer (some ⟨b, o, none⟩)) := by rfl) (hp : H[p]? = some (.blk b c T) := by rfl) (hc : Ez c.toList o m = some us := by rfl) (hT : vB P t = some m := by kernel_rfl) (hg : gd ops L ⟨some d, .load t x, ty, ps, ed, g⟩ = some true := by rfl) (hn : Nat.blt d n = true := by rfl) : TT ds n L w0 H E ([902, p, m] :: cs) (wpList P ops Q (⟨some d, .load t x, ty, ps, ed, g⟩ :: rest)) :=
 fun _ w S M e => yb S hg rfl hn (Ja S hT hx (jE hc).1 (M.cellsAt p hp (jE hc).2)) fun a S => h a w S M e
theorem JgZ {x y : Operand} {T : TypeId} {u : Value} {b o p : Nat} {lc us : List Value} {BT : TypeId} {H' : List Ent} {t : TypeId} {ps : String} {e : Array Edge} {g : Option (Nat × Bool)} (h : TT ds n L w0 H' TW cs (wpList P ops Q rest))
 (hx : val L x = some (.pointer (some ⟨b, o, none⟩)) := by rfl) (hy : val L y = some u := by rfl) (hp : H[p]? = some (.blk b lc.toArray BT) := by rfl) (hu : u.cells.toList = us := by first | exact US _ | exact (rfl : _ = [_]))
 (hT : (P.info? T).map (·.size) = some us.length := by kernel_rfl) (hg : gd ops L ⟨none, .store T x y, t, ps, e, g⟩ = some true := by rfl) (h1 : Jp us = true := by rfl) (hle : o + us.length ≤ lc.length := by first | decide | (simp; done) | (simp; omega))
 (hH : H.set p (.blk b (Jt lc o us).toArray BT) = H' := by (simp only [Jt, List.set_cons_zero, List.set_cons_succ, Nat.reduceAdd]; try rfl)) : TT ds n L w0 H TW ([900, p] :: cs) (wpList P ops Q (⟨none, .store T x y, t, ps, e, g⟩ :: rest)) :=
 fun a _ S M _ => Ju S M p hg hT hx hy hu rfl h1 hp hle fun w M => h a w S (hH ▸ M) trivial
theorem XS {E_ : TypeId} {x : Operand} {ad : Option Addr} {m cap : Nat} {T t : TypeId} {p : String} {e : Array Edge} {g : Option (Nat × Bool)} (h : TT ds n ((d, .int .i64 m) :: L) w0 H E cs (wpList P ops Q rest)) (hx : val L x = some (.slice ad m cap) := by rfl) (hU : P.underlying T = some (.slice E_) := by kernel_rfl)
 (hg : gd ops L ⟨some d, .call { callee := .builtin .len, args := #[x], argTypes := #[T] }, t, p, e, g⟩ = some true := by rfl) (hn : Nat.blt d n = true := by rfl) : TT ds n L w0 H E ([903, E_] :: cs) (wpList P ops Q (⟨some d, .call { callee := .builtin .len, args := #[x], argTypes := #[T] }, t, p, e, g⟩ :: rest)) :=
 fun _ w S M e => yb S hg rfl hn (Dn S hx hU) fun a S => h a w S M e
theorem Uw {E_ p : Nat} {x : Operand} {u : Value} {lo hi sz m : Nat} {xs : List Value} {e_ : TypeId} {T t : TypeId} {ps : String} {e : Array Edge} {g : Option (Nat × Bool)} (h : TT ds n ((d, .int .i64 m) :: L) w0 H E cs (wpList P ops Q rest)) (hx : val L x = some u := by rfl) (hp : H[p]? = some (Jd lo hi e_ sz u m xs) := by rfl) (hm : m ≤ maxLen := by unfold maxLen; omega) (hU : P.underlying T = some (.slice E_) := by kernel_rfl)
 (hg : gd ops L ⟨some d, .call { callee := .builtin .len, args := #[x], argTypes := #[T] }, t, ps, e, g⟩ = some true := by rfl) (hn : Nat.blt d n = true := by rfl) : TT ds n L w0 H E ([904, E_, p] :: cs) (wpList P ops Q (⟨some d, .call { callee := .builtin .len, args := #[x], argTypes := #[T] }, t, ps, e, g⟩ :: rest)) :=
 fun _ w S M e => yb S hg rfl hn (Ys S hx (M.readAll p hp hm) hU) fun a S => h a w S M e
theorem XQ {p ez sz : Nat} {x ix : Operand} {u : Value} {lo h8 m : Nat} {xs : List Value} {e_ : TypeId} {i : Int} {k : IntKind} {o2 : Nat} {t ty : TypeId} {ps : String} {ed : Array Edge} {g : Option (Nat × Bool)} (h : TT ds n ((d, .pointer (some ⟨(adr u).block, o2, none⟩)) :: L) w0 H E cs (wpList P ops Q rest))
 (hx : val L x = some u := by rfl) (hi : val L ix = some (.int k i) := by rfl) (hp : H[p]? = some (Jd lo h8 e_ sz u m xs) := by rfl) (hm : m ≤ maxLen := by unfold maxLen; omega) (hb : 0 ≤ i ∧ i < m := by first | omega | (simp; done) | (simp; omega)) (ho : (adr u).off + i.toNat * sz = o2 := by (try simp only [Int.toNat_natCast, Nat.mul_one, Nat.zero_add]); rfl) (hE : JX P t = some (ez, sz) := by kernel_rfl)
 (hg : gd ops L ⟨some d, .indexAddr t x ix, ty, ps, ed, g⟩ = some true := by rfl) (hn : Nat.blt d n = true := by rfl) : TT ds n L w0 H E ([905, ez, sz, p] :: cs) (wpList P ops Q (⟨some d, .indexAddr t x ix, ty, ps, ed, g⟩ :: rest)) :=
 fun _ w S M e => yb S hg rfl hn (K1 S hE hx (M.readAll p hp hm) hi hb) fun a S => h a w (ho ▸ S) M e
theorem Ul {m sz : Nat} {x ix : Operand} {b o o2 : Nat} {i : Int} {k : IntKind} {t ty : TypeId} {ps : String} {ed : Array Edge} {g : Option (Nat × Bool)} (h : TT ds n ((d, .pointer (some ⟨b, o2, none⟩)) :: L) w0 H E cs (wpList P ops Q rest))
 (hx : val L x = some (.pointer (some ⟨b, o, none⟩)) := by rfl) (hi : val L ix = some (.int k i) := by rfl) (hb : 0 ≤ i ∧ i < m := by first | omega | (simp; done) | (simp; omega)) (ho : o + i.toNat * sz = o2 := by (try simp only [Int.toNat_natCast, Nat.mul_one, Nat.zero_add]); rfl) (hE : YQ P t = some (m, sz) := by kernel_rfl)
 (hg : gd ops L ⟨some d, .indexAddr t x ix, ty, ps, ed, g⟩ = some true := by rfl) (hn : Nat.blt d n = true := by rfl) : TT ds n L w0 H E ([906, m, sz] :: cs) (wpList P ops Q (⟨some d, .indexAddr t x ix, ty, ps, ed, g⟩ :: rest)) :=
 fun _ w S M e => yb S hg rfl hn (VM S hE hx hi hb) fun a S => h a w (ho ▸ S) M e
theorem Uk {ez sz : Nat} {x ix : Operand} {u : Value} {m : Nat} {xs : List Value} {i : Int} {k : IntKind} {o2 : Nat} {t ty : TypeId} {ps : String} {ed : Array Edge} {g : Option (Nat × Bool)} (h : TT ds n ((d, .pointer (some ⟨(adr u).block, o2, none⟩)) :: L) w0 H E cs (wpList P ops Q rest))
 (hx : val L x = some u := by rfl) (hi : val L ix = some (.int k i) := by rfl) (hR : Rd 0 w0.heap.size w0 sz u m xs := by assumption) (hb : 0 ≤ i ∧ i < m := by first | omega | (simp; done) | (simp; omega)) (ho : (adr u).off + i.toNat * sz = o2 := by (try simp only [Int.toNat_natCast, Nat.mul_one, Nat.zero_add]); rfl) (hE : JX P t = some (ez, sz) := by kernel_rfl)
 (hg : gd ops L ⟨some d, .indexAddr t x ix, ty, ps, ed, g⟩ = some true := by rfl) (hn : Nat.blt d n = true := by rfl) : TT ds n L w0 H E ([907, ez, sz] :: cs) (wpList P ops Q (⟨some d, .indexAddr t x ix, ty, ps, ed, g⟩ :: rest)) :=
 fun _ w S M e => yb S hg rfl hn (K1 S hE hx (M.arg hR) hi hb) fun a S => h a w (ho ▸ S) M e
theorem Ux {E_ : Nat} {x : Operand} {u : Value} {sz m : Nat} {xs : List Value} {T t : TypeId} {ps : String} {e : Array Edge} {g : Option (Nat × Bool)} (h : TT ds n ((d, .int .i64 m) :: L) w0 H E cs (wpList P ops Q rest)) (hx : val L x = some u := by rfl) (hR : Rd 0 w0.heap.size w0 sz u m xs := by assumption) (hU : P.underlying T = some (.slice E_) := by kernel_rfl)
 (hg : gd ops L ⟨some d, .call { callee := .builtin .len, args := #[x], argTypes := #[T] }, t, ps, e, g⟩ = some true := by rfl) (hn : Nat.blt d n = true := by rfl) : TT ds n L w0 H E ([908, E_] :: cs) (wpList P ops Q (⟨some d, .call { callee := .builtin .len, args := #[x], argTypes := #[T] }, t, ps, e, g⟩ :: rest)) :=
 fun _ w S M e => yb S hg rfl hn (Ys S hx (M.arg hR) hU) fun a S => h a w S M e
theorem XU {b : Bool} {t : Nat} (h : JK L t = some (.bool b)) (k : TT ds n ((t, .bool false) :: L) w0 H E cs X) (hd : ¬ b = true := by first | decide | (intro h; simp at h; done) | (intro h; simp at h; omega) | (intro h; cases h; done)) : TT ds n L w0 H E ([941, t] :: cs) X := fun a w S M e => Js S h (fun hp => (hd hp).elim) fun _ S => k a w S M e
theorem Uy {b : Bool} {t : Nat} (h : JK L t = some (.bool b)) (k : TT ds n ((t, .bool true) :: L) w0 H E cs X) (hd : ¬ b = false := by first | decide | (intro h; simp at h; done) | (intro h; simp at h; omega) | (intro h; cases h; done)) : TT ds n L w0 H E ([942, t] :: cs) X := fun a w S M e => Js S h (fun _ S => k a w S M e) fun hp => (hd hp).elim
def Q3 : List Value → Option (List Value)
 | [] => some []
 | x :: l => match Q3 l with
   | some r => some (x :: r)
   | none => none
theorem D7 : ∀ {l r : List Value}, Q3 l = some r → r = l
 | [], r, h => by cases h; rfl
 | x :: l, r, h => by
   rw [Q3] at h
   cases h1 : Q3 l with
   | none => grind
   | some q => rw [h1] at h; cases h; rw [D7 h1]
def Jb5 (pl : List (Nat × Nat)) (z : List Value) (ps : List (Nat × Value)) : Option (List Value) := match YY (fun i => pl[i]?) z ps with
 | some l => Q3 l
 | none => none
theorem Jgg {pl : List (Nat × Nat)} {z r : List Value} {ps : List (Nat × Value)} (h : Jb5 pl z ps = some r) : YY (fun i => pl[i]?) z ps = some r := by
 grind [Jb5, D7]
theorem qB_ {T : TypeId} {ps : List (Nat × Operand)} {vs us : List Value} (pl : List (Nat × Nat)) (z : List Value) (S : SeesD ds n a L) {t : TypeId} {p : String} {e : Array Edge} {g : Option (Nat × Bool)} (k : ∀ a, SeesD ds n a ((d, .agg us.toArray) :: L) → wpList P ops Q rest a w) (hv : Vl L (ps.map (·.2)) = some vs := by rfl) (hf : Jb5 pl z ((ps.map (·.1)).zip vs) = some us := by rfl) (hB : Kl P T = some (pl, z) := by kernel_rfl)
 (hg : gd ops L ⟨some d, .build T ps.toArray, t, p, e, g⟩ = some true := by rfl) (hn : Nat.blt d n = true := by rfl) : wpList P ops Q (⟨some d, .build T ps.toArray, t, p, e, g⟩ :: rest) a w := yb S hg rfl hn (JW S hB hv (Jgg hf)) k
-- regions without an order
theorem Jeo {id : Nat} {r : List Oper} {nk : List Nat} (h : TT ds n L w0 H TW cs (wpK P .any r.toArray nk Q r.length (Array.replicate r.length false))) (hm : P.follows .mixedOrders = true := by kernel_rfl) : TT ds n L w0 H TW ((910 :: nk) :: cs) ((Code.region id r.toArray true).wp P Q) :=
 fun a _ S M _ => YH nk _ rfl M hm fun w M => h a w S M trivial
variable {md : Region.Mode} {nk : List Nat} {f : Nat} {listed : Array Bool} {b : Nat}
theorem Uq (h : TT ds n L w0 H E cs X) : TT ds n L w0 H E ([911, i] :: cs) X := h
theorem Ut (h : TT ds n ((d, v) :: L) w0 H E ((911 :: (i + 1) :: hs) :: cs) (wpK P md ops nk Q f (listed.setIfInBounds i true))) (hi : ops[i]? = some o := by rfl) (hg : gd ops L o = some true := by rfl) (hv : yH [] L k o.op = some (v, b, b) := by rfl) (hc : yI P k o.op = true := by kernel_rfl)
 (hd : o.dst = some d := by rfl) (hn : Nat.blt d n = true := by rfl) (hst : Yk md ops [] listed i = true := by kernel_rfl) (hQ : ∀ c (d : Option Tmp) (u : Value) (a : Act) w, Q (.panic c) (a.put d u) w → Q (.panic c) a w := by intro _ d _ _ _ h; cases d <;> exact h) :
 TT ds n L w0 H E ((911 :: i :: (k + 1) :: hs) :: cs) (wpK P md ops nk Q (f + 1) listed) := fun _ w S M e => Jj i S hi (fun W => jk S (Mem.start W) hv hc rfl) (fun a S => h a w S M e) hg hd hn hst hQ
theorem Us (h : TT ds n ((d, v) :: L) w0 H E ((911 :: (i + 1) :: hs) :: cs) (wpK P md ops nk Q f (listed.setIfInBounds i true))) (hi : ops[i]? = some o := by rfl) (hg : gd ops L o = some true := by rfl) (hv : yH H L k o.op = some (v, b, b) := by rfl) (hc : yI P k o.op = true := by kernel_rfl)
 (hd : o.dst = some d := by rfl) (hn : Nat.blt d n = true := by rfl) (hst : Yk md ops nk listed i = true := by kernel_rfl) (hQ : ∀ c (d : Option Tmp) (u : Value) (a : Act) w, Q (.panic c) (a.put d u) w → Q (.panic c) a w := by intro _ d _ _ _ h; cases d <;> exact h) :
 TT ds n L w0 H E ((911 :: i :: (k + 1) :: hs) :: cs) (wpK P md ops nk Q (f + 1) listed) := fun _ w S M e => Eg i S hi (fun _ hW => jk S (M.grow hW) hv hc rfl) (fun a S => h a w S M e) hg hd hn hst hQ
theorem Uv {x : Operand} {b o t m p : Nat} {c : Array Value} {T : TypeId} {us : List Value} {ty : TypeId} {ps : String} {ed : Array Edge} {g : Option (Nat × Bool)} (h : TT ds n ((d, .agg us.toArray) :: L) w0 H E cs (wpK P md ops nk Q f (listed.setIfInBounds i true)))
 (hi : ops[i]? = some ⟨some d, .load t x, ty, ps, ed, g⟩ := by rfl) (hx : val L x = some (.pointer (some ⟨b, o, none⟩)) := by rfl) (hp : H[p]? = some (.blk b c T) := by rfl) (hc : Ez c.toList o m = some us := by rfl) (hT : vB P t = some m := by kernel_rfl) (hg : gd ops L ⟨some d, .load t x, ty, ps, ed, g⟩ = some true := by rfl) (hn : Nat.blt d n = true := by rfl)
 (hst : Yk md ops nk listed i = true := by kernel_rfl) (hQ : ∀ c (d : Option Tmp) (u : Value) (a : Act) w, Q (.panic c) (a.put d u) w → Q (.panic c) a w := by intro _ d _ _ _ h; cases d <;> exact h) :
 TT ds n L w0 H E ([912, i, p, m] :: cs) (wpK P md ops nk Q (f + 1) listed) := fun _ w S M e => Eg i S hi (fun _ hW => Ja S hT hx (jE hc).1 ((M.grow hW).cellsAt p hp (jE hc).2)) (fun a S => h a w S M e) hg rfl hn hst hQ
theorem Uu (h : TT ds n ((d, undef) :: L) w0 H E ((911 :: (i + 1) :: hs) :: cs) (wpK P md ops nk Q f (listed.setIfInBounds i true))) (hi : ops[i]? = some o := by rfl) (hg : gd ops L o = some false := by rfl)
 (hd : o.dst = some d := by rfl) (hn : Nat.blt d n = true := by rfl) (hst : Yk md ops [] listed i = true := by kernel_rfl) (hQ : ∀ c (d : Option Tmp) (u : Value) (a : Act) w, Q (.panic c) (a.put d u) w → Q (.panic c) a w := by intro _ d _ _ _ h; cases d <;> exact h) :
 TT ds n L w0 H E ((911 :: i :: 0 :: hs) :: cs) (wpK P md ops nk Q (f + 1) listed) := fun _ w S M e => Jj5 i S hi (fun a S => h a w S M e) hg hd hn hst hQ
theorem Ur (h : TT ds n L w0 H E ((k :: l) :: cs) (Q .normal)) (hr : (Region.ready md ops listed).isEmpty = true := by kernel_rfl) : TT ds n L w0 H E (((k + 1) :: l) :: cs) (wpK P md ops nk Q 0 listed) := fun a w S M e => JgY hr (h a w S M e)
theorem Jep {x y : Operand} {T : TypeId} {u : Value} {b o p : Nat} {lc us : List Value} {BT : TypeId} {H' : List Ent} {t : TypeId} {ps : String} {e : Array Edge} {g : Option (Nat × Bool)} (h : TT ds n L w0 H' TW cs (wpK P md ops nk Q f (listed.setIfInBounds i true)))
 (hi : ops[i]? = some ⟨none, .store T x y, t, ps, e, g⟩ := by rfl) (hx : val L x = some (.pointer (some ⟨b, o, none⟩)) := by rfl) (hy : val L y = some u := by rfl) (hp : H[p]? = some (.blk b lc.toArray BT) := by rfl) (hu : u.cells.toList = us := by first | exact US _ | exact (rfl : _ = [_]))
 (hnk : nk.contains i = true := by rfl) (hr : Nat.beq (Region.ready md ops listed).length 1 && (Region.ready md ops listed).contains i = true := by kernel_rfl)
 (hT : (P.info? T).map (·.size) = some us.length := by kernel_rfl) (hg : gd ops L ⟨none, .store T x y, t, ps, e, g⟩ = some true := by rfl) (h1 : Jp us = true := by rfl) (hle : o + us.length ≤ lc.length := by first | decide | (simp; done) | (simp; omega))
 (hH : H.set p (.blk b (Jt lc o us).toArray BT) = H' := by (simp only [Jt, List.set_cons_zero, List.set_cons_succ, Nat.reduceAdd]; try rfl)) : TT ds n L w0 H TW ([914, i, p] :: cs) (wpK P md ops nk Q (f + 1) listed) :=
 fun a _ S M _ => JgX i hi hr (Ju S M p hg hT hx hy hu rfl h1 hp hle fun w M => wpList_nil (Jn ⟨fun e => absurd (hnk.symm.trans e) d_, h a w S (hH ▸ M) trivial⟩))
-- quiet regions
theorem Un {id : Nat} {r : List Oper} (h : TT ds n L w0 H E cs (fun a _ => wpQuiet P r.toArray (fun w => Mem w0 w H) (fun a => ∀ w, Mem w0 w H → Q .normal a w) r a)) (hm : P.follows .mixedOrders = true := by kernel_rfl) (hB : Region.lexB .any r.toArray = true := by kernel_rfl) : TT ds n L w0 H E ([920] :: cs) ((Code.region id r.toArray true).wp P Q) :=
 fun a w S M e => Jfa M hm hB (h a w S M e)
variable {R : Act → Prop}
theorem KC {C : World → Prop} (h : TT ds n ((d, v) :: L) w0 H E ((921 :: hs) :: cs) (fun a _ => wpQuiet P ops C R rest a)) (hg : gd ops L o = some true := by rfl) (hv : yH [] L k o.op = some (v, b, b) := by rfl) (hc : yI P k o.op = true := by kernel_rfl)
 (hd : o.dst = some d := by rfl) (hn : Nat.blt d n = true := by rfl) : TT ds n L w0 H E ((921 :: (k + 1) :: hs) :: cs) (fun a _ => wpQuiet P ops C R (o :: rest) a) := fun _ w S M e => JfA S hg hd hn (fun W _ => jk S (Mem.start W) hv hc rfl) fun a S => h a w S M e
theorem Uo (h : TT ds n ((d, v) :: L) w0 H E ((921 :: hs) :: cs) (fun a _ => wpQuiet P ops (fun w => Mem w0 w H) R rest a)) (hg : gd ops L o = some true := by rfl) (hv : yH H L k o.op = some (v, b, b) := by rfl) (hc : yI P k o.op = true := by kernel_rfl)
 (hd : o.dst = some d := by rfl) (hn : Nat.blt d n = true := by rfl) : TT ds n L w0 H E ((921 :: (k + 1) :: hs) :: cs) (fun a _ => wpQuiet P ops (fun w => Mem w0 w H) R (o :: rest) a) := fun _ w S M e => JfA S hg hd hn (fun _ M => jk S M hv hc rfl) fun a S => h a w S M e
theorem Up {C : World → Prop} (h : TT ds n ((d, undef) :: L) w0 H E ((921 :: hs) :: cs) (fun a _ => wpQuiet P ops C R rest a)) (hg : gd ops L o = some false := by rfl)
 (hd : o.dst = some d := by rfl) (hn : Nat.blt d n = true := by rfl) : TT ds n L w0 H E ((921 :: 0 :: hs) :: cs) (fun a _ => wpQuiet P ops C R (o :: rest) a) := fun _ w S M e => JgN S hg hd hn fun a S => h a w S M e
theorem Um (h : TT ds n L w0 H E cs X) : TT ds n L w0 H E ([921] :: cs) X := h
theorem Jen {Y : Act → World → Prop} {C : World → Prop} {w1 : World} {H' : List Ent} (h : TT ds n L w1 H' TW ((k :: l) :: cs) Y) : TT ds n L w0 H E (((k + 1) :: l) :: cs) (fun a _ => wpQuiet P ops C (fun a => ∀ w, Mem w1 w H' → Y a w) [] a) := fun a _ S _ _ => fun w M => h a w S M trivial
-- the end
theorem Jjz {fn : Func} {R : Ending → World → Prop} {t : Nat} (h : ∀ w, Mem w0 w H → R (.returned v) w) (hr : fn.results = #[.tmp t] := by rfl) (h1 : JK L t = some v := by rfl) : TT [] n L w0 H E ([930] :: cs) (bodyPost P fn R .ret) := fun _ w S M _ => Vb S hr (vp h1) (h w M)
theorem JiX {fn : Func} {R : Ending → World → Prop} {t t' : Nat} {v' : Value} (h : ∀ w, Mem w0 w H → R (.returned (.tuple #[v, v'])) w) (hr : fn.results = #[.tmp t, .tmp t'] := by rfl) (h1 : JK L t = some v := by rfl) (h2 : JK L t' = some v' := by rfl) : TT [] n L w0 H E ([931] :: cs) (bodyPost P fn R .ret) := fun _ w S M _ => Jr S hr (vp h1) (vp h2) (h w M)
structure Box (p : Prop) : Prop where
 out : p
theorem Jh1 (k : Box (∀ a w, SeesD ds n a L → Mem w0 w H → X a w)) : TT ds n L w0 H TW [] X := fun a w S M _ => k.out a w S M
theorem Jh0 (k : Box (∀ a, SeesD ds n a L → X a w)) : TT ds n L w0 H (fun w9 => w9 = w) [] X := fun a _ S _ e => e ▸ k.out a S
theorem JaZ {R : Act → Prop} {C : World → Prop} (k : Box (∀ a, SeesD ds n a L → wpQuiet P ops C R rest a)) : TT ds n L w0 H E [] (fun a _ => wpQuiet P ops C R rest a) := fun a _ S _ _ => k.out a S
theorem Jg0 {b : Bool} {t : Nat} {p q : Prop} (h : JK L t = some (.bool b)) [h1 : NrmT b p] [h2 : NrmF b q] (k1 : Box (∀ a w, p → SeesD ds n a ((t, .bool true) :: L) → Mem w0 w H → X a w)) (k2 : Box (∀ a w, q → SeesD ds n a ((t, .bool false) :: L) → Mem w0 w H → X a w)) : TT ds n L w0 H TW [[940, t]] X := fun a w S M _ => Jbk S h (fun p S => k1.out a w p S M) fun p S => k2.out a w p S M
theorem Jeq {b : Bool} {t : Nat} {p q : Prop} (h : JK L t = some (.bool b)) [h1 : NrmT b p] [h2 : NrmF b q] (k1 : Box (∀ a, p → SeesD ds n a ((t, .bool true) :: L) → X a w)) (k2 : Box (∀ a, q → SeesD ds n a ((t, .bool false) :: L) → X a w)) : TT ds n L w0 H (fun w9 => w9 = w) [[940, t]] X := fun a _ S _ e => e ▸ Jbk S h (fun p S => k1.out a p S) fun p S => k2.out a p S
theorem Jjy {b : Bool} {t : Nat} {p q : Prop} (h : JK L t = some (.bool b)) [h1 : NrmT b p] [h2 : NrmF b q] (k1 : Box (∀ a w, q → SeesD ds n a ((t, .bool false) :: L) → Mem w0 w H → X a w)) (k2 : Box (∀ a w, p → SeesD ds n a ((t, .bool true) :: L) → Mem w0 w H → X a w)) : TT ds n L w0 H TW [[943, t]] X := Jg0 h k2 k1
theorem JiW {b : Bool} {t : Nat} {p q : Prop} (h : JK L t = some (.bool b)) [h1 : NrmT b p] [h2 : NrmF b q] (k1 : Box (∀ a, q → SeesD ds n a ((t, .bool false) :: L) → X a w)) (k2 : Box (∀ a, p → SeesD ds n a ((t, .bool true) :: L) → X a w)) : TT ds n L w0 H (fun w9 => w9 = w) [[943, t]] X := Jeq h k2 k1
theorem Jh3 {t : Nat} {fn : Func} {R : Ending → World → Prop} (k : Box (∀ w, Mem w0 w H → R (.returned v) w)) (hr : fn.results = #[.tmp t] := by rfl) (h1 : JK L t = some v := by rfl) : TT [] n L w0 H TW [[930]] (bodyPost P fn R .ret) := Jjz k.out hr h1
theorem Jf2 {t t' : Nat} {fn : Func} {R : Ending → World → Prop} {v' : Value} (k : Box (∀ w, Mem w0 w H → R (.returned (.tuple #[v, v'])) w)) (hr : fn.results = #[.tmp t, .tmp t'] := by rfl) (h1 : JK L t = some v := by rfl) (h2 : JK L t' = some v' := by rfl) : TT [] n L w0 H TW [[931]] (bodyPost P fn R .ret) := JiX k.out hr h1 h2
theorem Jh2 {t : Nat} {fn : Func} {R : Ending → World → Prop} (k : Box (R (.returned v) w)) (hr : fn.results = #[.tmp t] := by rfl) (h1 : JK L t = some v := by rfl) : TT [] n L w0 H (fun w9 => w9 = w) [[930]] (bodyPost P fn R .ret) := fun _ _ S _ e => Vb S hr (vp h1) (e ▸ k.out)
theorem Jf1 {t t' : Nat} {fn : Func} {R : Ending → World → Prop} {v' : Value} (k : Box (R (.returned (.tuple #[v, v'])) w)) (hr : fn.results = #[.tmp t, .tmp t'] := by rfl) (h1 : JK L t = some v := by rfl) (h2 : JK L t' = some v' := by rfl) : TT [] n L w0 H (fun w9 => w9 = w) [[931]] (bodyPost P fn R .ret) := fun _ _ S _ e => Jr S hr (vp h1) (vp h2) (e ▸ k.out)
end
theorem go (cs : List (List Nat)) {Y G : Prop} (k : Y) (h : Box Y → AtC cs G := by
 intro k
 with_reducible first | refine Jg9 S M ?_ | refine Jg8 S M ?_ | refine Jg7 S M ?_ | refine Jg6 S M ?_ | refine Jg5 S M ?_ | refine Jg4 S M ?_ | refine Jg3 S M ?_ | refine Jg1 M ?_ | refine Jg2 M ?_ | refine Jet M ?_ | refine Jes M ?_ | refine Jer M ?_
 repeat' first
  | with_reducible exact JaZ k
  | with_reducible exact Jh1 k
  | with_reducible refine XP ?_
  | refine XU rfl ?_
  | refine Uy rfl ?_
  | refine XT ?_
  | with_reducible first | refine X5 ?_ | refine X4 ?_ | refine X7 ?_ | refine X6 ?_ | refine UA ?_ | refine UB ?_ | refine XY ?_ | refine UE ?_ | refine XX ?_ | refine XW ?_ | refine UF ?_ | refine UD ?_ | refine Uz ?_
  | refine X3 ?_
  | refine XZ ?_
  | refine XR ?_
  | refine XV ?_
  | refine XS ?_
  | refine Uw ?_
  | refine XQ ?_
  | refine Ul ?_
  | refine Uk ?_
  | refine Ux ?_
  | refine JgZ ?_
  | refine Ut ?_
  | refine Us ?_
  | refine Uu ?_
  | with_reducible refine Uq ?_
  | refine Uv ?_
  | refine Ur ?_
  | refine Jeo ?_
  | refine Jep ?_
  | refine KC ?_
  | refine Uo ?_
  | refine Up ?_
  | with_reducible refine Um ?_
  | with_reducible refine Jen ?_
  | refine Un ?_
  | exact Jh3 k
  | exact Jf2 k
  | refine UC ?_) : G := h ⟨k⟩
theorem gp (cs : List (List Nat)) {Y G : Prop} (k : Y) (h : Box Y → AtC cs G := by
 intro k
 with_reducible first | refine Dd S M ?_ | refine Dc S M ?_ | refine Db S M ?_ | refine Da S M ?_ | refine Jhc S M ?_ | refine Jhb S M ?_ | refine Jha S M ?_ | refine X8 M ?_ | refine X9 M ?_ | refine Jev M ?_ | refine Jeu M ?_ | refine UG M ?_ | refine X8 (Mem.start _) ?_ | refine X9 (Mem.start _) ?_ | refine UG (Mem.start _) ?_ | refine Dd S (Mem.start _) ?_ | refine Dc S (Mem.start _) ?_ | refine Db S (Mem.start _) ?_ | refine Da S (Mem.start _) ?_
 repeat' first
  | with_reducible exact JaZ k
  | with_reducible exact Jh0 k
  | with_reducible refine XP ?_
  | refine XU rfl ?_
  | refine Uy rfl ?_
  | refine XT ?_
  | with_reducible first | refine X5 ?_ | refine X4 ?_ | refine X7 ?_ | refine X6 ?_ | refine UA ?_ | refine UB ?_ | refine XY ?_ | refine UE ?_ | refine XX ?_ | refine XW ?_ | refine UF ?_ | refine UD ?_ | refine Uz ?_
  | refine X3 ?_
  | refine XZ ?_
  | refine XR ?_
  | refine XV ?_
  | refine XS ?_
  | refine Uw ?_
  | refine XQ ?_
  | refine Ul ?_
  | refine Uk ?_
  | refine Ux ?_
  | refine Ut ?_
  | refine Us ?_
  | refine Uu ?_
  | with_reducible refine Uq ?_
  | refine Uv ?_
  | refine Ur ?_
  | refine KC ?_
  | refine Uo ?_
  | refine Up ?_
  | with_reducible refine Um ?_
  | refine Un ?_
  | exact Jh2 k
  | exact Jf1 k
  | refine UC ?_) : G := h ⟨k⟩
theorem gi (cs : List (List Nat)) {Y Z G : Prop} (k : Y) (kz : Z) (h : Box Y → Box Z → AtC cs G := by
 intro k kz
 with_reducible first | refine Jg9 S M ?_ | refine Jg8 S M ?_ | refine Jg7 S M ?_ | refine Jg6 S M ?_ | refine Jg5 S M ?_ | refine Jg4 S M ?_ | refine Jg3 S M ?_ | refine Jg1 M ?_ | refine Jg2 M ?_ | refine Jet M ?_ | refine Jes M ?_ | refine Jer M ?_
 repeat' first
  | exact Jg0 rfl k kz
  | exact Jjy rfl k kz
  | with_reducible refine XP ?_
  | refine XU rfl ?_
  | refine Uy rfl ?_
  | refine XT ?_
  | with_reducible first | refine X5 ?_ | refine X4 ?_ | refine X7 ?_ | refine X6 ?_ | refine UA ?_ | refine UB ?_ | refine XY ?_ | refine UE ?_ | refine XX ?_ | refine XW ?_ | refine UF ?_ | refine UD ?_ | refine Uz ?_
  | refine X3 ?_
  | refine XZ ?_
  | refine XR ?_
  | refine XV ?_
  | refine XS ?_
  | refine Uw ?_
  | refine XQ ?_
  | refine Ul ?_
  | refine Uk ?_
  | refine Ux ?_
  | refine JgZ ?_
  | refine Ut ?_
  | refine Us ?_
  | refine Uu ?_
  | with_reducible refine Uq ?_
  | refine Uv ?_
  | refine Ur ?_
  | refine Jeo ?_
  | refine Jep ?_
  | refine KC ?_
  | refine Uo ?_
  | refine Up ?_
  | with_reducible refine Um ?_
  | with_reducible refine Jen ?_
  | refine Un ?_
  | refine UC ?_) : G := h ⟨k⟩ ⟨kz⟩
theorem gq (cs : List (List Nat)) {Y Z G : Prop} (k : Y) (kz : Z) (h : Box Y → Box Z → AtC cs G := by
 intro k kz
 with_reducible first | refine Dd S M ?_ | refine Dc S M ?_ | refine Db S M ?_ | refine Da S M ?_ | refine Jhc S M ?_ | refine Jhb S M ?_ | refine Jha S M ?_ | refine X8 M ?_ | refine X9 M ?_ | refine Jev M ?_ | refine Jeu M ?_ | refine UG M ?_ | refine X8 (Mem.start _) ?_ | refine X9 (Mem.start _) ?_ | refine UG (Mem.start _) ?_ | refine Dd S (Mem.start _) ?_ | refine Dc S (Mem.start _) ?_ | refine Db S (Mem.start _) ?_ | refine Da S (Mem.start _) ?_
 repeat' first
  | exact Jeq rfl k kz
  | exact JiW rfl k kz
  | with_reducible refine XP ?_
  | refine XU rfl ?_
  | refine Uy rfl ?_
  | refine XT ?_
  | with_reducible first | refine X5 ?_ | refine X4 ?_ | refine X7 ?_ | refine X6 ?_ | refine UA ?_ | refine UB ?_ | refine XY ?_ | refine UE ?_ | refine XX ?_ | refine XW ?_ | refine UF ?_ | refine UD ?_ | refine Uz ?_
  | refine X3 ?_
  | refine XZ ?_
  | refine XR ?_
  | refine XV ?_
  | refine XS ?_
  | refine Uw ?_
  | refine XQ ?_
  | refine Ul ?_
  | refine Uk ?_
  | refine Ux ?_
  | refine Ut ?_
  | refine Us ?_
  | refine Uu ?_
  | with_reducible refine Uq ?_
  | refine Uv ?_
  | refine Ur ?_
  | refine KC ?_
  | refine Uo ?_
  | refine Up ?_
  | with_reducible refine Um ?_
  | refine Un ?_
  | refine UC ?_) : G := h ⟨k⟩ ⟨kz⟩
def leB (n : Int) (k : Nat) : List UInt8 := (List.range k).map fun i => V4 (n / 256 ^ i)
theorem Jl (n : Int) (k : Nat) : (leB n k).length = k := by simp [leB]
def leN : List UInt8 → Nat
 | [] => 0
 | b :: bs => b.toNat + 256 * leN bs
theorem Q7 : ∀ (x y : List UInt8), leN (x ++ y) = leN x + 256 ^ x.length * leN y
 | [], y => by simp [leN]
 | b :: x, y => by simp only [List.cons_append, leN, Q7 x y, List.length_cons, Nat.pow_succ]; grind
theorem G6 : ∀ x : List UInt8, leN x < 256 ^ x.length
 | [] => by simp [leN]
 | b :: x => by
   have h1 := G6 x
   grind [UInt8.toNat_lt, leN]
theorem JdX {x y k : Nat} (h : x < 2 ^ k) : x ||| (y * 2 ^ k) = x + y * 2 ^ k := by
 grind [Nat.mul_comm, Nat.two_pow_add_eq_or_of_lt]
theorem JgK (x : UInt8) (j : Nat) (h : j ≤ 5) : (x.toNat : Int) * 2 ^ ((8 : Int) * (j : Int)).toNat = ((x.toNat * 2 ^ (8 * j) : Nat) : Int) ∧ x.toNat * 2 ^ (8 * j) < 2 ^ 48 := by
 have h1 : x.toNat < 256 := UInt8.toNat_lt x
 refine ⟨by grind, ?_⟩
 have h2 : 2 ^ (8 * j) ≤ 2 ^ 40 := Nat.pow_le_pow_right o_ o_
 exact Nat.lt_of_le_of_lt (Nat.mul_le_mul_left x.toNat h2) o_
theorem Ee {l : List UInt8} {j : Nat} {x : UInt8} (h : l[j]? = some x) : leN (l.take j) ||| x.toNat * 2 ^ (8 * j) = leN (l.take (j + 1)) := by
 obtain ⟨hlt, he⟩ := List.getElem?_eq_some_iff.1 h
 have hl : (l.take j).length = j := by simp; omega
 have hb := G6 (l.take j)
 rw [hl] at hb
 grind [Nat.pow_mul, JdX, List.take_succ_eq_append_getElem, Q7, leN]
theorem E7 {l : List Value} {k : Nat} {v : Value} (h : k < l.length) : Jt l k [v] = l.set k v := by
 grind [Yc, List.set_eq_take_append_cons_drop]
theorem Mem.nilRow {w0 w : World} {H : List Ent} (M : Mem w0 w H) (T : TypeId) (sz : Nat) : ∃ lo hi, Mem w0 w (Jd lo hi T sz (.slice none 0 0) 0 [] :: H) := ⟨_, _, M.rowNil T sz⟩
def RdH (wc : World) (H : List Ent) (bv : Value) (bs : List UInt8) : Prop := ∀ w, Mem wc w H → Bs 0 w.heap.size w bv bs
section
variable {ds : List Deferred}
variable {P : Program} {n : Nat} {a : Act} {L : List (Nat × Value)} {w : World}
def JbO (P : Program) (t : TypeId) : Bool := match P.underlying t with
 | some (.pointer _) => !P.eqGuardType P.depth t
 | _ => false
def JbQ (P : Program) (t : TypeId) : Bool := match P.underlying t with
 | some (.map _ _) => !P.eqGuardType P.depth t
 | _ => false
theorem JbN {t : TypeId} (h : JbO P t = true) : (∃ e, P.underlying t = some (.pointer e)) ∧ P.eqGuardType P.depth t = false := by
 grind [JbO]
theorem JbP {t : TypeId} (h : JbQ P t = true) : (∃ k e, P.underlying t = some (.map k e)) ∧ P.eqGuardType P.depth t = false := by
 grind [JbQ]
theorem Jan {t e : TypeId} (d : Nat) (hU : P.underlying t = some (.pointer e)) (ad : Addr) (w : World) : (Op.equalIn (d + 1) t (.pointer (some ad)) (.pointer none)).run P w = .ok false w := by
 simp only [Op.equalIn, Sem.run_bind, run_underlying hU, Result.andThen_ok, Sem.run_pure]
theorem Jao {t k e : TypeId} (d : Nat) (hU : P.underlying t = some (.map k e)) (b : Nat) (w : World) : (Op.equalIn (d + 1) t (.map (some b)) (.map none)).run P w = .ok false w := by
 simp only [Op.equalIn, Sem.run_bind, run_underlying hU, Result.andThen_ok, Sem.run_pure]
section
variable {x : Operand} {xt yt t : TypeId} {d : Option Tmp} {p : String} {ed : Array Edge} {g : Option (Nat × Bool)} {ad : Addr} {b : Nat}
theorem J9 (h : JbO P xt = true) (S : SeesD ds n a L) (hx : val L x = some (.pointer (some ad))) : Je P a ⟨d, .binOp .eql xt x (.const (.pointer none)) yt, t, p, ed, g⟩ w (.bool false) := by
 obtain ⟨⟨e, hU⟩, hG⟩ := JbN h
 have hr : (binOp .eql xt (.pointer (some ad)) (.pointer none)).run P w = .ok (.bool false) w := by
  simp only [binOp]; simp [Op.equal, Op.maxDepth, Jan 9999 hU]
 have hc : a.eval (.const (.pointer none)) = .pointer none := rfl
 unfold Je execOp
 simp only [S.eval hx, hc, eqGuard, Sem.run_bind]
 simp_all
theorem Jhh (h : JbQ P xt = true) (S : SeesD ds n a L) (hx : val L x = some (.map (some b))) : Je P a ⟨d, .binOp .eql xt x (.const (.map none)) yt, t, p, ed, g⟩ w (.bool false) := by
 obtain ⟨⟨k, e, hU⟩, hG⟩ := JbP h
 have hr : (binOp .eql xt (.map (some b)) (.map none)).run P w = .ok (.bool false) w := by
  simp only [binOp]; simp [Op.equal, Op.maxDepth, Jao 9999 hU]
 have hc : a.eval (.const (.map none)) = .map none := rfl
 unfold Je execOp
 simp only [S.eval hx, hc, eqGuard, Sem.run_bind]
 simp_all
end
end
section
variable {H H' : List Ent} {w0 w : World}
theorem Mem.join {w' : World} (M : Mem w0 w H) (M' : Mem w w' H') : Mem w0 w' (H' ++ H) := by
 have g := M.grow M'.below
 refine ⟨g.below, fun e he => ?_, fun e he => ?_, ?_⟩
 ·rcases List.mem_append.1 he with h | h
  ·exact M'.ok e h
  ·exact g.ok e h
 ·rcases List.mem_append.1 he with h | h
  ·exact ⟨Nat.le_trans M.below.size (M'.fits e h).1, (M'.fits e h).2⟩
  ·exact g.fits e h
 ·refine List.pairwise_append.2 ⟨M'.apart, M.apart, fun e he f hf => ?_⟩
  exact .inr (Nat.le_trans (M.fits f hf).2 (M'.fits e he).1)
theorem Ent.apart_symm {e f : Ent} (h : e.apart f) : f.apart e := h.symm
theorem Mem.perm (M : Mem w0 w H) (h : H.Perm H') : Mem w0 w H' :=
 ⟨M.below, fun e he => M.ok e (h.mem_iff.2 he), fun e he => M.fits e (h.mem_iff.2 he), (h.pairwise_iff (fun h => Ent.apart_symm h)).1 M.apart⟩
theorem Mem.joinR {w' : World} (M : Mem w0 w H) (M' : Mem w w' H') : Mem w0 w' (H ++ H') := (M.join M').perm List.perm_append_comm
theorem Jbe {P : Program} {Q : Exit → Act → World → Prop} {a : Act} {R A B : Code} {t : Operand} (I : Act → World → Prop) (h2 : ∀ a w, I a w → B.wp P Q a w) (h1 : (∀ a w, I a w → B.wp P Q a w) → (Code.seq R (Code.cond t A B)).wp P Q a w) : (Code.seq R (Code.cond t A B)).wp P Q a w := h1 h2
end
theorem JeP (v : Value) (bs : List UInt8) (w : World) (hv : Bs 0 w.heap.size w v bs) (hl : bs.length ≤ 140737488351232) : CT 299 #[v] w fun e w' => ∃ v', e = .returned v' ∧ Fresh w w' 5 1 v' bs.length (Jh bs) := by
 have M := Mem.start w
 refine qI Tryz.func299 8 ?_
 refine gp [[2,1],[5,1]] ?_; intro a S
 refine qY S (ZJ (e := 5) S rfl (M.arg hv) k_) ?_; intro a S
 refine nxC (Js (t := 4) S rfl ?_ ?_)
 ·intro h4 S
  refine gp [[3,1],[4],[930]] ?_
  obtain ⟨rfl, h0, h1⟩ := hv.nilV h4
  exact ⟨_, rfl, by rw [h1, h0]; exact M.freshNil _ _⟩
 intro h4 S
 refine cF S (wp_skip (nxE (jJ (e := 5) (sz := 1) (by_ := 1) (zc := Ym) S M rfl rfl k_ ?_))); intro a w1 b1 S M hB
 refine qG [1] S ?_; intro a S
 replace M := M.toRow (sz := 1) (m := 0) (cap := 0) (xs := []) 0 rfl rfl (Nat.le_refl _) (Nat.zero_le _) rfl rfl
 refine JI (e := 5) (sz := 1) (by_ := 1) (zc := Ym) S M 0 rfl rfl k_ rfl d_ rfl rfl rfl (M.arg hv) (JA _) o_ (by grind [maxLen]) ?_; intro a w2 vA loA hiA S M
 refine gp [[0,1],[3],[930]] ?_
 exact ⟨_, rfl, by have := M.fresh 0 rfl; grind⟩
section
variable {v : Value}
def isF : Value → Bool
 | .nilFunc | .func .. => true
 | _ => false
def yO : Value → Bool
 | .nilFunc => true
 | _ => false
theorem Ji0 {P : Program} {xt : TypeId} {ps rs : Array TypeId} {va : Bool} (d : Nat) (hU : P.underlying xt = some (.func ps rs va)) (hv : isF v = true) (w : World) : (Op.equalIn (d + 1) xt v .nilFunc).run P w = .ok (yO v) w := by
 match v, hv with
 | .nilFunc, _ => simp only [Op.equalIn, Sem.run_bind, run_underlying hU, Result.andThen_ok, Sem.run_pure, yO]
 | .func f fi ca, _ => simp only [Op.equalIn, Sem.run_bind, run_underlying hU, Result.andThen_ok, Sem.run_pure, yO]
theorem JcT {P : Program} {n : Nat} {a : Act} {L : List (Nat × Value)} {w : World} {x : Operand} {xt : TypeId} {ps rs : Array TypeId} {va : Bool} (hU : P.underlying xt = some (.func ps rs va)) (_ : P.eqGuardType P.depth xt = false) (S : Jk n a L) (hx : val L x = some v) (hv : isF v = true)
 {d : Option Tmp} {yt t : TypeId} {p : String} {e : Array Edge} {g : Option (Nat × Bool)} : Je P a ⟨d, .binOp .eql xt x (.const .nilFunc) yt, t, p, e, g⟩ w (.bool (yO v)) := by
 have h : (Op.equalIn (9999 + 1) xt v .nilFunc).run P w = .ok (yO v) w := Ji0 9999 hU hv w
 unfold Je execOp
 have hc : a.eval (.const .nilFunc) = .nilFunc := rfl
 have hb : (binOp .eql xt v .nilFunc).run P w = .ok (.bool (yO v)) w := by
  have e : binOp .eql xt v .nilFunc = (do pure (.bool (← Op.equalIn (9999 + 1) xt v .nilFunc))) := match v, hv with
   | .nilFunc, _ => rfl
   | .func _ _ _, _ => rfl
  simp_all
 simp only [S.eval hx, hc, eqGuard, Sem.run_bind]
 simp_all
theorem vT {pl : Nat → Option (Nat × Nat)} {l us : List Value} {i off sz : Nat} (hp : pl i = some (off, sz)) (hu : v.cells.toList = us) (hsz : us.length = sz) (hle : off + sz ≤ l.length) : YY pl l [(i, v)] = some (Jt l off us) := by
 grind [YY, Nat.beq_refl, Nat.ble_eq_true_of_le]
end
def Vi (zs : List Int) : List Value := zs.map fun z => .int .i64 z
theorem Rd.icell {lo hi i : Nat} {w : World} {v : Value} {zs : List Int} {z : Int} (h : Rd lo hi w 1 v zs.length (Vi zs)) (hz : zs[i]? = some z) : w.cell? ⟨(adr v).block, (adr v).off + i, none⟩ = some (.int .i64 z) := by
 have hlt := (List.getElem?_eq_some_iff.1 hz).1
 rw [h.at_ i (by grind [Vi])]; simp [Vi, hz]
section
variable {ds : List Deferred}
variable {P : Program} {ops : Array Oper} {Q : Exit → Act → World → Prop} {rest : List Oper} {n d : Nat} {a : Act} {L : List (Nat × Value)} {w w0 : World} {H : List Ent}
end
def JkP (W : World) (v : Value) (bss : List (List UInt8)) : Prop := ∃ vs, Rd 0 W.heap.size W 1 v bss.length vs ∧ ∀ (i : Nat) x bs, vs[i]? = some x → bss[i]? = some bs → Bs 0 W.heap.size W x bs
section
variable {ds : List Deferred}
theorem Vh {P : Program} {ops : Array Oper} {Q : Exit → Act → World → Prop} {rest : List Oper} {n : Nat} {a : Act} {L : List (Nat × Value)} {w w0 : World} {H : List Ent} {x y : Operand} {T : TypeId} {lo hi e sz m j o' kk : Nat} {v u : Value} {cs us : List Value} {bb : Nat}
 (S : SeesD ds n a L) (M : Mem w0 w H) (pos : Nat) {t : TypeId} {p : String} {ed : Array Edge} {g : Option (Nat × Bool)} (hg : gd ops L ⟨none, .store T x y, t, p, ed, g⟩ = some true) (hT : (P.info? T).map (·.size) = some kk)
 (hx : val L x = some (.pointer (some ⟨bb, o', none⟩))) (hb : bb = (adr v).block) (ho : o' = (adr v).off + j) (hy : val L y = some u) (hu : u.cells.toList = us) (hsz : us.length = kk) (h1 : Jp us = true) (hp : H[pos]? = some (Jd lo hi e sz v m cs)) (hm : 0 < m) (hcl : cs.length = m * sz) (hle : j + us.length ≤ cs.length)
 (k : ∀ w' lo' hi', Mem w0 w' (Jd lo' hi' e sz v m (Jt cs j us) :: H.eraseIdx pos) → wpList P ops Q rest a w') : wpList P ops Q (⟨none, .store T x y, t, p, ed, g⟩ :: rest) a w := by
 obtain ⟨gb, cap, more, rfl, hc1, hc2, hc3, M1⟩ := (M.front pos hp).ofRow hm
 simp only [adr] at hb ho
 subst hb ho
 rw [Nat.zero_add] at hx
 refine Ju (us := us) S M1 0 hg hT hx hy hu hsz h1 rfl (by grind) fun w' M2 => ?_
 simp only [List.set_cons_zero] at M2
 have e1 : Jt (cs ++ more) j us = Jt cs j us ++ more := by
  grind [Yc]
 rw [e1] at M2
 have hl : (Jt cs j us).length = m * sz := by grind [Vu]
 exact k w' _ _ (M2.toRow (sz := sz) (m := m) (cap := cap) (xs := Jt cs j us) 0 rfl hl hc1 hc2 (by grind) (by grind))
end
end Go.Proofs.YtocppoflhllelaaGreat
