/-
  The second walk: new rows as results; nil; strings of bytes alike.
-/
import Derived.Test.YtcpobgjoicadjaaV8
import Derived.Lib.SliceRun
namespace Go.Proofs.Ytcpobgjoicadjaa
open Go.RowKit Go.Sort

variable {P : Program} {ops : Array Oper} {Q : Exit → Act → World → Prop} {rest : List Oper} {n d : Nat} {a : Act} {L : List (Nat × Value)} {w w0 : World} {v : Value} {o : Oper} {H : List Ent}

/-- behind w, in w', the slice v is a row of its own, in new memory -/
structure Fresh (w w' : World) (e sz : Nat) (v : Value) (n : Nat) (cs : List Value) : Prop where
  below : Below w.heap.size w w'
  row : ∃ lo hi, w.heap.size ≤ lo ∧ hi ≤ w'.heap.size ∧ w'.ownsRow lo e sz v n cs ∧ ∀ k, v.ownBlock = some k → lo ≤ k ∧ k < hi

theorem Mem.fresh {w' : World} {lo hi e sz m : Nat} {x : Value} {cs : List Value} (M : Mem w w' H) (p : Nat) (h : H[p]? = some (rowE lo hi e sz x m cs)) : Fresh w w' e sz x m cs := by
  have f := M.fits _ (List.mem_of_getElem? h)
  obtain ⟨h1, h2⟩ := M.own p h
  exact ⟨M.below, lo, hi, f.1, f.2, h1, h2⟩
theorem Mem.freshNil {w' : World} (M : Mem w w' H) (e sz : Nat) : Fresh w w' e sz (.slice none 0 0) 0 [] := (M.rowNil e sz).fresh 0 rfl
theorem Mem.pushFresh {w' : World} {e sz m : Nat} {x : Value} {cs : List Value} (M : Mem w0 w H) (h : Fresh w w' e sz x m cs) : ∃ lo hi, w.heap.size ≤ lo ∧ Mem w0 w' (rowE lo hi e sz x m cs :: H) := by
  obtain ⟨hb, lo, hi, h1, h2, h3, h4⟩ := h
  exact ⟨lo, hi, h1, M.push hb _ (rowE_ok h3 h4) h1 h2⟩
theorem Fresh.rd {w' : World} {e sz m : Nat} {x : Value} {cs : List Value} (h : Fresh w w' e sz x m cs) (hm : m ≤ maxLen) : Rd w.heap.size w'.heap.size w' sz x m cs := by
  obtain ⟨hb, lo, hi, h1, h2, h3, h4⟩ := h
  exact (Rd.of_row h3 h4 hm).wide h1 h2

open Classical in
noncomputable def ifL {α : Type} (p : Prop) (l : List α) : List α := if p then l else []
theorem ifL_pos {α : Type} {p : Prop} {l : List α} (h : p) : ifL p l = l := by unfold ifL; rw [if_pos h]
theorem ifL_neg {α : Type} {p : Prop} {l : List α} (h : ¬ p) : ifL p l = [] := by unfold ifL; rw [if_neg h]
/-- a new row where p holds, nil where not -/
theorem fresh_if {w' : World} {p : Prop} {e : Nat} {x : Value} {bs : List UInt8} (hK : Below w.heap.size w w') (h1 : p → Fresh w w' e 1 x bs.length (bcells bs)) (h2 : ¬ p → x = .slice none 0 0) : Fresh w w' e 1 x (ifL p bs).length (bcells (ifL p bs)) := by
  by_cases h : p
  · rw [ifL_pos h]; exact h1 h
  · rw [ifL_neg h, h2 h]; exact ((Mem.start w).grow hK).freshNil e 1

def isNilV : Value → Bool
  | .slice a _ _ => a.isNone
  | _ => false
theorem Rd.nilV {lo hi sz m : Nat} {x : Value} {cs : List Value} (h : Rd lo hi w sz x m cs) (hn : isNilV x = true) : x = .slice none 0 0 ∧ m = 0 ∧ cs = [] := by
  rcases h.2.2 with ⟨rfl, rfl⟩ | ⟨ad, cap, rfl, _⟩
  · exact ⟨rfl, rfl, List.eq_nil_of_length_eq_zero (by simpa using h.1)⟩
  · simp [isNilV] at hn
theorem y_eqlNil {x : Operand} {u : Value} {lo hi sz m c c' : Nat} {cs : List Value} {xt e : TypeId} (S : Sees n a L) (hx : val L x = some u) (hR : Rd lo hi w sz u m cs) (hU : P.underlying xt = some (.slice e)) {d : Option Tmp} {yt t : TypeId} {p : String} {ed : Array Edge} {g : Option (Nat × Bool)} :
    Yields P a ⟨d, .binOp .eql xt x (.const (.slice none c c')) yt, t, p, ed, g⟩ w (.bool (isNilV u)) := by
  obtain ⟨ad, cap, rfl, _, _⟩ := hR.form
  unfold Yields execOp
  have hc : a.eval (.const (.slice none c c')) = .slice none c c' := rfl
  simp only [S.eval hx, hc, eqGuard, Sem.run_bind]
  simp [Lib.run_eql_slice_nil w xt e ad m cap c c' hU, isNilV, go_sem]
theorem y_neqNil {x : Operand} {u : Value} {lo hi sz m c c' : Nat} {cs : List Value} {xt e : TypeId} (S : Sees n a L) (hx : val L x = some u) (hR : Rd lo hi w sz u m cs) (hU : P.underlying xt = some (.slice e)) {d : Option Tmp} {yt t : TypeId} {p : String} {ed : Array Edge} {g : Option (Nat × Bool)} :
    Yields P a ⟨d, .binOp .neq xt x (.const (.slice none c c')) yt, t, p, ed, g⟩ w (.bool (!isNilV u)) := by
  obtain ⟨ad, cap, rfl, _, _⟩ := hR.form
  unfold Yields execOp
  have hc : a.eval (.const (.slice none c c')) = .slice none c c' := rfl
  have hr : (binOp .neq xt (.slice ad m cap) (.slice none c c')).run P w = .ok (.bool (!ad.isNone)) w := by
    simp only [binOp]
    simp [Op.equal, Op.maxDepth, Lib.run_equalIn_slice_nil w 9999 xt e ad m cap c c' hU]
  simp only [S.eval hx, hc, eqGuard, Sem.run_bind]
  simp [hr, isNilV, go_sem]

theorem strEq (x y : List UInt8) : ((⟨x.toArray⟩ : ByteArray).toList == (⟨y.toArray⟩ : ByteArray).toList) = (x == y) := by
  rw [← beq_toListBytes]
  have h : ((⟨x.toArray⟩ : ByteArray) == (⟨y.toArray⟩ : ByteArray)) = (x.toArray == y.toArray) := rfl
  rw [h, Bool.eq_iff_iff]
  simp


theorem putL_eq : ∀ (us l : List Value) (o : Nat), o + us.length ≤ l.length → putL l o us = l.take o ++ us ++ l.drop (o + us.length)
  | [], l, o, h => by simp [putL]
  | u :: us, l, o, h => by
    simp only [List.length_cons] at h
    rw [putL, putL_eq us (l.set o u) (o + 1) (by simp; omega)]
    have h1 : (l.set o u).take (o + 1) = l.take o ++ [u] := by
      rw [List.take_succ_eq_append_getElem (by simp; omega), List.take_set_of_le (Nat.le_refl o)]
      simp
    have h2 : (l.set o u).drop (o + 1 + us.length) = l.drop (o + (us.length + 1)) := by
      rw [List.drop_set_of_lt (by omega)]; congr 1; omega
    rw [h1, h2]; simp
/-- a row that was written -/
theorem putL_same {us l : List Value} {o : Nat} (h : o + us.length ≤ l.length) : ((putL l o us).drop o).take us.length = us := by
  rw [putL_eq us l o h, List.append_assoc, List.drop_append_of_le_length (by simp; omega), List.drop_of_length_le (by simp; omega)]
  simp
/-- a row ahead of what was written -/
theorem putL_ahead {us l : List Value} {o i k : Nat} (h : o + us.length ≤ l.length) (hk : i + k ≤ o) : ((putL l o us).drop i).take k = (l.drop i).take k := by
  rw [putL_eq us l o h, List.append_assoc, List.drop_append_of_le_length (by simp; omega), List.take_append_of_le_length (by simp; omega)]
  rw [List.drop_take, List.take_take]; congr 1; omega

theorem CellsAt.one {b o : Nat} {cs : List Value} {u : Value} (h : CellsAt w b o cs) (k : Nat) (hu : cs[k]? = some u) : w.cell? ⟨b, o + k, none⟩ = some u := (h k (List.getElem?_eq_some_iff.1 hu).1).trans hu

/-- two entries become one -/
theorem Mem.merge {e1 e2 : Ent} (M : Mem w0 w (e1 :: e2 :: H)) (lo hi : Nat) (φ : World → Prop) (hlo : w0.heap.size ≤ lo) (hhi : hi ≤ w.heap.size) (hH : ∀ f ∈ H, f.hi ≤ lo ∨ hi ≤ f.lo) (hφ : ∀ w', SameOn lo hi w w' → φ w') : Mem w0 w (.own lo hi φ :: H) := by
  have M' : Mem w0 w H := M.sub ((List.sublist_cons_self ..).trans (List.sublist_cons_self ..))
  refine ⟨M'.below, fun f hf => ?_, fun f hf => ?_, .cons (fun f hf => (hH f hf).symm) M'.apart⟩
  · rcases List.mem_cons.1 hf with rfl | hf
    · exact hφ
    · exact M'.ok f hf
  · rcases List.mem_cons.1 hf with rfl | hf
    · exact ⟨hlo, hhi⟩
    · exact M'.fits f hf
theorem SameOn.sub {lo hi lo' hi' : Nat} {w w' : World} (h : SameOn lo hi w w') (h1 : lo ≤ lo') (h2 : hi' ≤ hi) : SameOn lo' hi' w w' := fun k a b => h k (by omega) (by omega)
/-- a chunk's fact, in every world that lies alike there -/
theorem Mem.ownAll {lo hi : Nat} {φ : World → Prop} (M : Mem w0 w H) (p : Nat) (h : H[p]? = some (.own lo hi φ)) : ∀ w', SameOn lo hi w w' → φ w' := M.get p h

/-- a chunk of which nothing is known yet -/
theorem Mem.pushTriv (M : Mem w0 w H) (φ : World → Prop) (h : ∀ w', φ w') : Mem w0 w (.own w.heap.size w.heap.size φ :: H) :=
  M.push (ext_refl w) _ (fun w' _ => h w') (Nat.le_refl _) (Nat.le_refl _)

end Go.Proofs.Ytcpobgjoicadjaa
