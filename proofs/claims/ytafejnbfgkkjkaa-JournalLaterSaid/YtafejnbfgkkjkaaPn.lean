/-
  Pointers and maps against nil.
-/
import Derived.Test.YtafejnbfgkkjkaaGX
namespace Go.Proofs.Ytafejnbfgkkjkaa
open Go.RowKit Go.Sort
variable {ds : List Deferred}
variable {P : Program} {n : Nat} {a : Act} {L : List (Nat × Value)} {w : World}

def isPtr (P : Program) (t : TypeId) : Bool := match P.underlying t with
  | some (.pointer _) => !P.eqGuardType P.depth t
  | _ => false
def isMap (P : Program) (t : TypeId) : Bool := match P.underlying t with
  | some (.map _ _) => !P.eqGuardType P.depth t
  | _ => false
theorem isPtr_spec {t : TypeId} (h : isPtr P t = true) : (∃ e, P.underlying t = some (.pointer e)) ∧ P.eqGuardType P.depth t = false := by
  unfold isPtr at h
  split at h
  · rename_i e he; exact ⟨⟨e, he⟩, by simpa using h⟩
  · cases h
theorem isMap_spec {t : TypeId} (h : isMap P t = true) : (∃ k e, P.underlying t = some (.map k e)) ∧ P.eqGuardType P.depth t = false := by
  unfold isMap at h
  split at h
  · rename_i k e he; exact ⟨⟨k, e, he⟩, by simpa using h⟩
  · cases h
theorem equalP_some {t e : TypeId} (d : Nat) (hU : P.underlying t = some (.pointer e)) (ad : Addr) (w : World) : (Op.equalIn (d + 1) t (.pointer (some ad)) (.pointer none)).run P w = .ok false w := by
  simp only [Op.equalIn, Sem.run_bind, run_underlying hU, Result.andThen_ok, Sem.run_pure]
theorem equalP_none {t e : TypeId} (d : Nat) (hU : P.underlying t = some (.pointer e)) (w : World) : (Op.equalIn (d + 1) t (.pointer none) (.pointer none)).run P w = .ok true w := by
  simp only [Op.equalIn, Sem.run_bind, run_underlying hU, Result.andThen_ok, Sem.run_pure]; rfl
theorem equalM_some {t k e : TypeId} (d : Nat) (hU : P.underlying t = some (.map k e)) (b : Nat) (w : World) : (Op.equalIn (d + 1) t (.map (some b)) (.map none)).run P w = .ok false w := by
  simp only [Op.equalIn, Sem.run_bind, run_underlying hU, Result.andThen_ok, Sem.run_pure]
theorem equalM_none {t k e : TypeId} (d : Nat) (hU : P.underlying t = some (.map k e)) (w : World) : (Op.equalIn (d + 1) t (.map none) (.map none)).run P w = .ok true w := by
  simp only [Op.equalIn, Sem.run_bind, run_underlying hU, Result.andThen_ok, Sem.run_pure]; rfl
section
variable {x : Operand} {xt yt t : TypeId} {d : Option Tmp} {p : String} {ed : Array Edge} {g : Option (Nat × Bool)} {ad : Addr} {b : Nat}
theorem y_eqlPS (h : isPtr P xt = true) (S : SeesD ds n a L) (hx : val L x = some (.pointer (some ad))) : Yields P a ⟨d, .binOp .eql xt x (.const (.pointer none)) yt, t, p, ed, g⟩ w (.bool false) := by
  obtain ⟨⟨e, hU⟩, hG⟩ := isPtr_spec h
  have hr : (binOp .eql xt (.pointer (some ad)) (.pointer none)).run P w = .ok (.bool false) w := by
    simp only [binOp]; simp [Op.equal, Op.maxDepth, equalP_some 9999 hU]
  have hc : a.eval (.const (.pointer none)) = .pointer none := rfl
  unfold Yields execOp
  simp only [S.eval hx, hc, eqGuard, Sem.run_bind]
  simp [hG, hr, go_sem]
theorem y_neqPS (h : isPtr P xt = true) (S : SeesD ds n a L) (hx : val L x = some (.pointer (some ad))) : Yields P a ⟨d, .binOp .neq xt x (.const (.pointer none)) yt, t, p, ed, g⟩ w (.bool true) := by
  obtain ⟨⟨e, hU⟩, hG⟩ := isPtr_spec h
  have hr : (binOp .neq xt (.pointer (some ad)) (.pointer none)).run P w = .ok (.bool true) w := by
    simp only [binOp]; simp [Op.equal, Op.maxDepth, equalP_some 9999 hU]
  have hc : a.eval (.const (.pointer none)) = .pointer none := rfl
  unfold Yields execOp
  simp only [S.eval hx, hc, eqGuard, Sem.run_bind]
  simp [hG, hr, go_sem]
theorem y_eqlPN (h : isPtr P xt = true) (S : SeesD ds n a L) (hx : val L x = some (.pointer none)) : Yields P a ⟨d, .binOp .eql xt x (.const (.pointer none)) yt, t, p, ed, g⟩ w (.bool true) := by
  obtain ⟨⟨e, hU⟩, hG⟩ := isPtr_spec h
  have hr : (binOp .eql xt (.pointer none) (.pointer none)).run P w = .ok (.bool true) w := by
    simp only [binOp]; simp [Op.equal, Op.maxDepth, equalP_none 9999 hU]
  have hc : a.eval (.const (.pointer none)) = .pointer none := rfl
  unfold Yields execOp
  simp only [S.eval hx, hc, eqGuard, Sem.run_bind]
  simp [hG, hr, go_sem]
theorem y_eqlMS (h : isMap P xt = true) (S : SeesD ds n a L) (hx : val L x = some (.map (some b))) : Yields P a ⟨d, .binOp .eql xt x (.const (.map none)) yt, t, p, ed, g⟩ w (.bool false) := by
  obtain ⟨⟨k, e, hU⟩, hG⟩ := isMap_spec h
  have hr : (binOp .eql xt (.map (some b)) (.map none)).run P w = .ok (.bool false) w := by
    simp only [binOp]; simp [Op.equal, Op.maxDepth, equalM_some 9999 hU]
  have hc : a.eval (.const (.map none)) = .map none := rfl
  unfold Yields execOp
  simp only [S.eval hx, hc, eqGuard, Sem.run_bind]
  simp [hG, hr, go_sem]
theorem y_neqMS (h : isMap P xt = true) (S : SeesD ds n a L) (hx : val L x = some (.map (some b))) : Yields P a ⟨d, .binOp .neq xt x (.const (.map none)) yt, t, p, ed, g⟩ w (.bool true) := by
  obtain ⟨⟨k, e, hU⟩, hG⟩ := isMap_spec h
  have hr : (binOp .neq xt (.map (some b)) (.map none)).run P w = .ok (.bool true) w := by
    simp only [binOp]; simp [Op.equal, Op.maxDepth, equalM_some 9999 hU]
  have hc : a.eval (.const (.map none)) = .map none := rfl
  unfold Yields execOp
  simp only [S.eval hx, hc, eqGuard, Sem.run_bind]
  simp [hG, hr, go_sem]
end

end Go.Proofs.Ytafejnbfgkkjkaa
