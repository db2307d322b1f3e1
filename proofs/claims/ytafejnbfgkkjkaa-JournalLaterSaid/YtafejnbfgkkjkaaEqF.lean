/-
  The second walk: function values and nil; one field of a struct filled in.
-/
import Derived.Test.YtafejnbfgkkjkaaGX
namespace Go.Proofs.Ytafejnbfgkkjkaa
open Go.RowKit Go.Sort

def isF : Value → Bool
  | .nilFunc | .func .. => true
  | _ => false
def isNilF : Value → Bool
  | .nilFunc => true
  | _ => false
theorem equalF {P : Program} {v : Value} {xt : TypeId} {ps rs : Array TypeId} {va : Bool} (d : Nat) (hU : P.underlying xt = some (.func ps rs va)) (hv : isF v = true) (w : World) : (Op.equalIn (d + 1) xt v .nilFunc).run P w = .ok (isNilF v) w := by
  match v, hv with
  | .nilFunc, _ => simp only [Op.equalIn, Sem.run_bind, run_underlying hU, Result.andThen_ok, Sem.run_pure, isNilF]
  | .func f fi ca, _ => simp only [Op.equalIn, Sem.run_bind, run_underlying hU, Result.andThen_ok, Sem.run_pure, isNilF]
theorem y_eqlF {P : Program} {n : Nat} {a : Act} {L : List (Nat × Value)} {w : World} {x : Operand} {v : Value} {xt : TypeId} {ps rs : Array TypeId} {va : Bool} (hU : P.underlying xt = some (.func ps rs va)) (hG : P.eqGuardType P.depth xt = false) (S : Sees n a L) (hx : val L x = some v) (hv : isF v = true)
    {d : Option Tmp} {yt t : TypeId} {p : String} {e : Array Edge} {g : Option (Nat × Bool)} : Yields P a ⟨d, .binOp .eql xt x (.const .nilFunc) yt, t, p, e, g⟩ w (.bool (isNilF v)) := by
  have h : (Op.equalIn (9999 + 1) xt v .nilFunc).run P w = .ok (isNilF v) w := equalF 9999 hU hv w
  unfold Yields execOp
  have hc : a.eval (.const .nilFunc) = .nilFunc := rfl
  have hb : (binOp .eql xt v .nilFunc).run P w = .ok (.bool (isNilF v)) w := by
    have e : binOp .eql xt v .nilFunc = (do pure (.bool (← Op.equalIn (9999 + 1) xt v .nilFunc))) := match v, hv with
      | .nilFunc, _ => rfl
      | .func _ _ _, _ => rfl
    rw [e, Sem.run_bind, h]; rfl
  simp only [S.eval hx, hc, eqGuard, Sem.run_bind]
  simp [hG, hb, go_sem]

theorem fillL_one {pl : Nat → Option (Nat × Nat)} {l us : List Value} {i off sz : Nat} {v : Value} (hp : pl i = some (off, sz)) (hu : v.cells.toList = us) (hsz : us.length = sz) (hle : off + sz ≤ l.length) : fillL pl l [(i, v)] = some (putL l off us) := by
  subst hu
  simp only [fillL, hp]
  have h1 : Nat.beq v.cells.toList.length sz = true := by rw [hsz]; exact Nat.beq_refl sz
  have h2 : Nat.ble (off + sz) l.length = true := Nat.ble_eq_true_of_le hle
  rw [h1, h2]; rfl

end Go.Proofs.Ytafejnbfgkkjkaa
