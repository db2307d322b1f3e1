/-
  The second walk: a scope in which the run jumps ahead to one label.
-/
import Derived.Test.YtgocjpcmjljeoaaVL
namespace Go.Proofs.Ytgocjpcmjljeoaa
open Go.RowKit Go.Sort

/-- as Q; by a goto to label l: J; by another goto: no way out -/
def jumpF (l : Nat) (J : Act → World → Prop) (Q : Exit → Act → World → Prop) : Exit → Act → World → Prop
  | .goto i, a, w => i = l ∧ J a w
  | e, a, w => Q e a w

variable {P : Program} {a : Act} {w : World} {Q : Exit → Act → World → Prop}

theorem wp_scope_fwd {c rest : Code} (l : Nat) (J : Act → World → Prop) (hf : findLabel c l = some rest) (h : c.wp P (jumpF l J Q) a w) (h' : ∀ a w, J a w → rest.wp P (Exit.noGoto Q) a w) : (Code.scope c).wp P Q a w := by
  intro b k cs
  obtain ⟨e, a1, w1, hq, ha⟩ := h b (.inScope c :: k) cs
  cases e with
  | normal => exact ⟨.normal, a1, w1, hq, .head step_scope (Steps.trans ha (.one step_inScope))⟩
  | exit i => exact ⟨.exit i, a1, w1, hq, fun k' hk => .head step_scope (ha k' (by simp [exitTo, hk]))⟩
  | goto i =>
    obtain ⟨rfl, hJ⟩ := hq
    have hg : gotoIn i (.inScope c :: k) = some (.code rest :: .inScope c :: k) := by simp [gotoIn, hf]
    have hs : Steps P (lone (b.at a (.code (.scope c) :: k)) cs w) (lone (b.at a1 (.code rest :: .inScope c :: k)) cs w1) := .head step_scope (ha _ hg)
    obtain ⟨e, a2, w2, hq2, ha2⟩ := h' a1 w1 hJ b (.inScope c :: k) cs
    cases e with
    | normal => exact ⟨.normal, a2, w2, hq2, hs.trans (Steps.trans ha2 (.one step_inScope))⟩
    | exit i => exact ⟨.exit i, a2, w2, hq2, fun k' hk => hs.trans (ha2 k' (by simp [exitTo, hk]))⟩
    | goto l => exact hq2.elim
    | ret => exact ⟨_, a2, w2, hq2, .of_steps hs ha2⟩
    | panic ch => exact ⟨_, a2, w2, hq2, .of_steps hs ha2⟩
    | outgrown => exact ⟨_, a2, w2, hq2, .of_steps hs ha2⟩
  | ret => exact ⟨_, a1, w1, hq, .of_steps (.one step_scope) ha⟩
  | panic ch => exact ⟨_, a1, w1, hq, .of_steps (.one step_scope) ha⟩
  | outgrown => exact ⟨_, a1, w1, hq, .of_steps (.one step_scope) ha⟩
theorem sj_normal {l : Nat} {J : Act → World → Prop} (h : Q .normal a w) : jumpF l J Q .normal a w := h
theorem sj_exit {l i : Nat} {J : Act → World → Prop} (h : Q (.exit i) a w) : jumpF l J Q (.exit i) a w := h
theorem sj_ret {l : Nat} {J : Act → World → Prop} (h : Q .ret a w) : jumpF l J Q .ret a w := h
theorem sj_goto {l : Nat} {J : Act → World → Prop} (h : J a w) : jumpF l J Q (.goto l) a w := ⟨rfl, h⟩
theorem then_goto {next : Act → World → Prop} {i : Nat} (h : Q (.goto i) a w) : Exit.then next Q (.goto i) a w := h
theorem block_goto {i j : Nat} (h : Q (.goto j) a w) : Exit.inBlock i Q (.goto j) a w := h

end Go.Proofs.Ytgocjpcmjljeoaa
