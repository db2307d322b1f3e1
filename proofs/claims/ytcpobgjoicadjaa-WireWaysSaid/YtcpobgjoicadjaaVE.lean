/-
  The second walk: structs of many cells, whose cells are not spelled.
-/
import Derived.Test.YtcpobgjoicadjaaVD
namespace Go.Proofs.Ytcpobgjoicadjaa
open Go.RowKit Go.Sort

variable {P : Program} {ops : Array Oper} {Q : Exit → Act → World → Prop} {rest : List Oper} {n d : Nat} {a : Act} {L : List (Nat × Value)} {w w0 : World} {v : Value} {o : Oper} {H : List Ent}

theorem putL_mid {A B C us : List Value} (h : us.length = B.length) : putL (A ++ (B ++ C)) A.length us = A ++ (us ++ C) := by
  rw [putL_eq _ _ _ (by simp only [List.length_append]; omega), List.take_left, ← List.drop_drop, List.drop_left, h, List.drop_left, List.append_assoc]
theorem putL_all {l us : List Value} (h : us.length = l.length) : putL l 0 us = us := by
  have := putL_mid (A := []) (B := l) (C := []) (us := us) h
  simpa using this
theorem cutL_left : ∀ (B C : List Value), cutL (B ++ C) 0 B.length = some B
  | [], [] => rfl
  | [], _ :: _ => rfl
  | b :: B, C => by simp only [List.cons_append, List.length_cons, cutL, cutL_left B C, Option.map_some]
theorem cutL_mid : ∀ (A B C : List Value), cutL (A ++ (B ++ C)) A.length B.length = some B
  | [], B, C => cutL_left B C
  | x :: A, B, C => by simp only [List.cons_append, List.length_cons, cutL]; exact cutL_mid A B C
theorem allOne_append : ∀ {xs ys : List Value}, allOne (xs ++ ys) = (allOne xs && allOne ys)
  | [], ys => by simp [allOne]
  | x :: xs, ys => by simp [allOne, allOne_append (xs := xs), Bool.and_assoc]
theorem st_storeAll {x y : Operand} {T : TypeId} {b sz : Nat} {l us : List Value} {BT : TypeId} (S : Sees n a L) (M : Mem w0 w H) (pos : Nat) {t : TypeId} {p : String} {e : Array Edge} {g : Option (Nat × Bool)} (hg : gd ops L ⟨none, .store T x y, t, p, e, g⟩ = some true)
    (hT : (P.info? T).map (·.size) = some sz) (hx : val L x = some (.pointer (some ⟨b, 0, none⟩))) (hy : val L y = some (.agg us.toArray)) (hsz : us.length = sz) (h1 : allOne us = true) (hp : H[pos]? = some (.blk b l.toArray BT)) (hl : l.length = sz)
    (k : ∀ w, Mem w0 w (H.set pos (.blk b us.toArray BT)) → wpList P ops Q rest a w) : wpList P ops Q (⟨none, .store T x y, t, p, e, g⟩ :: rest) a w := by
  refine st_store (us := us) S M pos hg hT hx hy rfl hsz h1 hp (by omega) fun w M => k w ?_
  rwa [putL_all (by omega)] at M
/-- cells in the middle of a block are set -/
theorem st_storeMid {x y : Operand} {T : TypeId} {b o sz : Nat} {A B C us : List Value} {BT : TypeId} (S : Sees n a L) (M : Mem w0 w H) (pos : Nat) {t : TypeId} {p : String} {e : Array Edge} {g : Option (Nat × Bool)} (hg : gd ops L ⟨none, .store T x y, t, p, e, g⟩ = some true)
    (hT : (P.info? T).map (·.size) = some sz) (hx : val L x = some (.pointer (some ⟨b, o, none⟩))) (hy : val L y = some v) (hu : v.cells.toList = us) (hsz : us.length = sz) (h1 : allOne us = true) (hp : H[pos]? = some (.blk b (A ++ (B ++ C)).toArray BT)) (hA : A.length = o) (hB : B.length = sz)
    (k : ∀ w, Mem w0 w (H.set pos (.blk b (A ++ (us ++ C)).toArray BT)) → wpList P ops Q rest a w) : wpList P ops Q (⟨none, .store T x y, t, p, e, g⟩ :: rest) a w := by
  subst hA
  refine st_store (us := us) S M pos hg hT hx hy hu hsz h1 hp (by simp only [List.length_append]; omega) fun w M => k w ?_
  rwa [putL_mid (by omega)] at M
theorem Mem.cellsMid {b o : Nat} {A B C : List Value} {t : TypeId} (M : Mem w0 w H) (p : Nat) (h : H[p]? = some (.blk b (A ++ (B ++ C)).toArray t)) (hA : A.length = o) : CellsAt w b o B := by
  subst hA; exact M.cellsAt p h (cutL_mid A B C)

theorem end_none {fn : Func} {R : Ending → World → Prop} (S : Sees n a L) (hr : fn.results = #[]) (h : R (.returned (.tuple #[])) w) : bodyPost P fn R .ret a w :=
  bodyPost_ret (run_results (rs := []) (vs := []) S hr .nil) S.defers h
theorem end_noneN {fn : Func} {R : Ending → World → Prop} (S : Sees n a L) (hr : fn.results = #[]) (h : R (.returned (.tuple #[])) w) : bodyPost P fn R .normal a w :=
  ⟨S.defers, _, run_results (rs := []) (vs := []) S hr .nil, h⟩

end Go.Proofs.Ytcpobgjoicadjaa
