/-
  '==' of structs, as an operation.
-/
import Derived.Test.YtcbofgcmfkcglaaGX
import Derived.Test.YtcbofgcmfkcglaaEql
namespace Go.Proofs.Ytcbofgcmfkcglaa
open Go.RowKit Go.Sort
variable {ds : List Deferred}
variable {P : Program} {n : Nat} {a : Act} {L : List (Nat × Value)} {w : World}

theorem y_eqlG {x y : Operand} {A B : Array Value} {r : Bool} {xt : TypeId} (hG : P.eqGuardType P.depth xt = false) (S : SeesD ds n a L) (hx : val L x = some (.agg A)) (hy : val L y = some (.agg B)) (hE : ∀ w, (Op.equalIn 10000 xt (.agg A) (.agg B)).run P w = .ok r w) {d : Option Tmp} {yt t : TypeId} {p : String} {e : Array Edge} {g : Option (Nat × Bool)} :
    Yields P a ⟨d, .binOp .eql xt x y yt, t, p, e, g⟩ w (.bool r) := by
  unfold Yields execOp; simp only [S.eval hx, S.eval hy, eqGuard, Sem.run_bind]
  simp [hG, hE w, go_sem]
theorem y_neqG {x y : Operand} {A B : Array Value} {r : Bool} {xt : TypeId} (hG : P.eqGuardType P.depth xt = false) (S : SeesD ds n a L) (hx : val L x = some (.agg A)) (hy : val L y = some (.agg B)) (hE : ∀ w, (Op.equalIn 10000 xt (.agg A) (.agg B)).run P w = .ok r w) {d : Option Tmp} {yt t : TypeId} {p : String} {e : Array Edge} {g : Option (Nat × Bool)} :
    Yields P a ⟨d, .binOp .neq xt x y yt, t, p, e, g⟩ w (.bool (!r)) := by
  unfold Yields execOp; simp only [S.eval hx, S.eval hy, eqGuard, Sem.run_bind]
  simp [hG, hE w, go_sem]

end Go.Proofs.Ytcbofgcmfkcglaa
