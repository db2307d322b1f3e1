/-
  Package lock: places as keys of maps.
-/
import Derived.Test.YtcbofgcmfkcglaaLa
import Derived.Test.YtcbofgcmfkcglaaMq
namespace Go.Proofs.Ytcbofgcmfkcglaa
open Go.RowKit Go.Sort

theorem equalPl (d : Nat) (p q : Pl) (w : World) : (Op.equalIn (d + 3) 58 (.agg (Pl.cellsL p).toArray) (.agg (Pl.cellsL q).toArray)).run Try.prog w = .ok (decide (p = q)) w := by
  have e : decide (p = q) = (p.1.eqb q.1 && p.2 == q.2) := by
    rw [Bool.eq_iff_iff, decide_eq_true_eq, Bool.and_eq_true, Nm.eqb_iff, beq_iff_eq, Prod.ext_iff]
  rw [e]
  simp [go_sem, Nm.eqb]
  (repeat' split) <;> simp_all
abbrev encP (p : Pl) : Value := .agg (Pl.cellsL p).toArray
theorem bitsP (p : Pl) : Instr.sameBits 10000 (encP p) (encP p) = true := by
  rw [show (10000 : Nat) = 9999 + 1 from rfl]
  simp [Instr.sameBits]
theorem checkP (b : Bool) (p : Pl) (w : World) : (Instr.checkKey b 10000 58 (encP p)).run Try.prog w = .ok () w := by
  kernel_rfl
theorem keyP : KeyT Try.prog 58 encP := by
  refine ⟨fun k l w h => ?_, checkP, bitsP⟩
  have hask : ∀ (l : Mes Pl) (i : Nat), (∀ p ∈ l, p.2.key = encP p.1) → (Instr.findAsking 58 (encP k) (l.map (·.2)) i).run Try.prog w = .ok (posK k l i) w := by
    intro l
    induction l with
    | nil => intro i _; rfl
    | cons p l ih =>
      intro i h
      have e : (Op.equal 58 (encP k) (encP p.1)).run Try.prog w = .ok (decide (k = p.1)) w := equalPl 9997 k p.1 w
      rw [List.map_cons, Instr.findAsking, h p (List.mem_cons_self ..), Sem.run_bind, e]
      simp only [Result.andThen, posK]
      by_cases hk : k = p.1
      · rw [decide_eq_true hk, if_pos hk.symm]; rfl
      · rw [decide_eq_false hk, if_neg (show ¬ p.1 = k from fun e => hk e.symm)]
        exact ih (i + 1) fun q hq => h q (List.mem_cons_of_mem _ hq)
  simp only [Instr.findKey, Sem.run_bind, run_underlying Try.underlying58, Result.andThen]
  cases l with
  | nil => rfl
  | cons p l =>
    have e : ∀ fs, Instr.findNow (.struct fs) (encP k) ((p :: l).map (·.2)) 0 = none := fun fs => by
      rw [List.map_cons, Instr.findNow]; rfl
    rw [e]
    exact hask (p :: l) 0 h

end Go.Proofs.Ytcbofgcmfkcglaa
