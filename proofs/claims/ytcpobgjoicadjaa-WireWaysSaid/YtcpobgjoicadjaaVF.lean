/-
  The second walk: '&^'; function values that bear arguments; their calls.
-/
import Derived.Test.YtcpobgjoicadjaaVE
namespace Go.Proofs.Ytcpobgjoicadjaa
open Go.RowKit Go.Sort

variable {P : Program} {ops : Array Oper} {Q : Exit → Act → World → Prop} {rest : List Oper} {n d : Nat} {a : Act} {L : List (Nat × Value)} {w w0 : World} {v : Value} {o : Oper} {H : List Ent}

theorem y_andNot {x y : Operand} {k : IntKind} {i j : Int} (S : Sees n a L) (hx : val L x = some (.int k i)) (hy : val L y = some (.int k j))
    {d : Option Tmp} {xt yt t : TypeId} {p : String} {e : Array Edge} {g : Option (Nat × Bool)} : Yields P a ⟨d, .binOp .andNot xt x y yt, t, p, e, g⟩ w (.int k (k.wrap (BitVec.ofInt k.bits i &&& ~~~BitVec.ofInt k.bits j).toNat)) := by
  unfold Yields execOp
  simp only [S.eval hx, S.eval hy]
  simp [eqGuard, binOp, Op.intBits, go_sem]

theorem y_makeFunc {f : FuncId} {fs cs : List Operand} {vf vc : List Value} (S : Sees n a L) (hf : vals L fs = some vf) (hc : vals L cs = some vc)
    {d : Option Tmp} {t : TypeId} {p : String} {e : Array Edge} {g : Option (Nat × Bool)} : Yields P a ⟨d, .makeFunc (.func f) fs.toArray cs.toArray, t, p, e, g⟩ w (.func (.func f) vf.toArray vc.toArray) := by
  have h1 : fs.toArray.map a.eval = vf.toArray := by rw [← S.evals hf]; simp
  have h2 : cs.toArray.map a.eval = vc.toArray := by rw [← S.evals hc]; simp
  unfold Yields execOp
  simp [h1, h2, Instr.makeFunc, go_sem]

theorem y_indexP {x ix : Operand} {t m sz : Nat} {cs : List Value} {i : Int} {ki : IntKind} (S : Sees n a L) (hE : arrayElem P t = some (m, sz)) (hT : ∀ e, P.underlying t = some (.array m e) → plainB P e = true) (hx : val L x = some (.agg cs.toArray)) (hi : val L ix = some (.int ki i)) (h : 0 ≤ i ∧ i < m) (hv : cs[i.toNat * sz]? = some v)
    {d : Option Tmp} {ty : TypeId} {p : String} {ed : Array Edge} {g : Option (Nat × Bool)} : Yields P a ⟨d, .index t x ix, ty, p, ed, g⟩ w v := by
  obtain ⟨e, hu, inf, hinf, rfl⟩ := arrayElem_spec hE
  unfold Yields execOp
  simp only [S.eval hx, S.eval hi]
  simp only [Instr.index, asIntOf, Sem.run_bind, Sem.run_pure, Result.andThen_ok]
  rw [show (underlying t).run P w = .ok (.array m e) w by simp [underlying, hu, go_sem]]
  have hv' : cs.toArray[i.toNat * inf.size]? = some v := by rw [List.getElem?_toArray]; exact hv
  simp only [Result.andThen_ok, h.1, h.2, and_self, if_true, Sem.run_bind, run_sizeOf hinf, part, run_isAgg_plain (hT e hu), Sem.run_pure, hv', Bool.false_eq_true, if_false]

theorem st_callB {f : FuncId} {fx : Operand} {xs : List Operand} {vs fi ca : List Value} {R : Ending → World → Prop} (S : Sees n a L) {d : Nat} {ts : Array TypeId} {t : TypeId} {p : String} {e : Array Edge} {g : Option (Nat × Bool)}
    (hE : Enters P f) (hg : gd ops L ⟨some d, .call { callee := .value fx, args := xs.toArray, argTypes := ts }, t, p, e, g⟩ = some true) (hn : Nat.blt d n = true) (hf : val L fx = some (.func (.func f) fi.toArray ca.toArray)) (hx : vals L xs = some vs) (hC : Calls P f (fi ++ (vs ++ ca)).toArray w R)
    (k : ∀ e w', R e w' → ∃ v, e = .returned v ∧ ∀ a, Sees n a ((d, v) :: L) → wpList P ops Q rest a w') : wpList P ops Q (⟨some d, .call { callee := .value fx, args := xs.toArray, argTypes := ts }, t, p, e, g⟩ :: rest) a w := by
  unfold wpList
  rw [if_pos (gd_spec S hg)]
  refine .inl ?_
  unfold Oper.wp
  have h : xs.toArray.map a.eval = vs.toArray := by rw [← S.evals hx]; simp
  have hr : (execOp a.eval ⟨some d, .call { callee := .value fx, args := xs.toArray, argTypes := ts }, t, p, e, g⟩).run P w = .ok (.enter f (fi ++ (vs ++ ca)).toArray) w := by
    unfold execOp
    simp only [resolve, h, S.eval hf, Deferred.ofValue, Sem.run_bind, Sem.run_pure, Result.andThen_ok, invoke]
    rw [show fi.toArray ++ vs.toArray ++ ca.toArray = (fi ++ (vs ++ ca)).toArray by simp]
    exact hE _ _
  rw [hr, Oper.upon_enter]
  refine hC.mono fun e w' hR => ?_
  obtain ⟨v, rfl, hk⟩ := k e w' hR
  exact hk _ (S.put hn v)

/-! ### rows and blocks of one's own, read -/
theorem Mem.readAll {lo hi e sz m : Nat} {x : Value} {xs : List Value} (M : Mem w0 w H) (p : Nat) (h : H[p]? = some (rowE lo hi e sz x m xs)) (hm : m ≤ maxLen) : Rd 0 w.heap.size w sz x m xs :=
  (M.readRow p h hm).wide (Nat.zero_le _) (M.fits _ (List.mem_of_getElem? h)).2
theorem Rd.of_cells {lo hi b o sz m cap : Nat} {cs : List Value} (hc : CellsAt w b o cs) (hl : cs.length = m * sz) (h1 : lo ≤ b) (h2 : b < hi) (hm : m ≤ cap) (hx : cap ≤ maxLen) : Rd lo hi w sz (.slice (some ⟨b, o, none⟩) m cap) m cs :=
  ⟨hl, Nat.le_trans hm hx, .inr ⟨⟨b, o, none⟩, cap, rfl, hm, hx, hc, fun _ => ⟨rfl, h1, h2⟩⟩⟩
/-- a part of a block of one's own, as a slice -/
theorem Mem.sliceAt {b o sz m cap : Nat} {c : Array Value} {t : TypeId} {cs : List Value} (M : Mem w0 w H) (p : Nat) (h : H[p]? = some (.blk b c t)) (hc : CellsAt w b o cs) (hl : cs.length = m * sz) (hm : m ≤ cap) (hx : cap ≤ maxLen) : Rd 0 w.heap.size w sz (.slice (some ⟨b, o, none⟩) m cap) m cs :=
  Rd.of_cells hc hl (Nat.zero_le _) (M.fits _ (List.mem_of_getElem? h)).2 hm hx
theorem Fresh.from {w1 w2 : World} {e sz m : Nat} {x : Value} {cs : List Value} (h : Fresh w1 w2 e sz x m cs) (hb : Below w.heap.size w w1) : Fresh w w2 e sz x m cs := by
  obtain ⟨h0, lo, hi, h1, h2, h3, h4⟩ := h
  exact ⟨ext_trans hb h0, lo, hi, Nat.le_trans hb.size h1, h2, h3, h4⟩
theorem Fresh.rd0 {w' : World} {e sz m : Nat} {x : Value} {cs : List Value} (h : Fresh w w' e sz x m cs) (hm : m ≤ maxLen) : Rd 0 w'.heap.size w' sz x m cs := (h.rd hm).wide (Nat.zero_le _) (Nat.le_refl _)
theorem Mem.rowC {lo hi n : Nat} {t : TypeId} {v : Value} {xs ys : List UInt8} (M : Mem w0 w (rowE lo hi t 1 v (xs.length + n) (bcells xs ++ bcells ys) :: H)) (h : ys.length = n) : Mem w0 w (rowE lo hi t 1 v (xs ++ ys).length (bcells (xs ++ ys)) :: H) := by
  rw [bcells_append, List.length_append, h]; exact M

end Go.Proofs.Ytcpobgjoicadjaa
