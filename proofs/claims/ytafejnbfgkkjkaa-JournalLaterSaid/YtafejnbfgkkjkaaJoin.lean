/-
  The second walk: what a callee left new is joined to what one owns.
-/
import Derived.Test.YtafejnbfgkkjkaaGX
namespace Go.Proofs.Ytafejnbfgkkjkaa
open Go.RowKit Go.Sort

theorem Mem.join {w0 w w' : World} {H H' : List Ent} (M : Mem w0 w H) (M' : Mem w w' H') : Mem w0 w' (H' ++ H) := by
  have g := M.grow M'.below
  refine ⟨g.below, fun e he => ?_, fun e he => ?_, ?_⟩
  · rcases List.mem_append.1 he with h | h
    · exact M'.ok e h
    · exact g.ok e h
  · rcases List.mem_append.1 he with h | h
    · exact ⟨Nat.le_trans M.below.size (M'.fits e h).1, (M'.fits e h).2⟩
    · exact g.fits e h
  · refine List.pairwise_append.2 ⟨M'.apart, M.apart, fun e he f hf => ?_⟩
    exact .inr (Nat.le_trans (M.fits f hf).2 (M'.fits e he).1)

theorem Ent.apart_symm {e f : Ent} (h : e.apart f) : f.apart e := h.symm
theorem Mem.perm {w0 w : World} {H H' : List Ent} (M : Mem w0 w H) (h : H.Perm H') : Mem w0 w H' :=
  ⟨M.below, fun e he => M.ok e (h.mem_iff.2 he), fun e he => M.fits e (h.mem_iff.2 he), (h.pairwise_iff (fun h => Ent.apart_symm h)).1 M.apart⟩
theorem Mem.joinR {w0 w w' : World} {H H' : List Ent} (M : Mem w0 w H) (M' : Mem w w' H') : Mem w0 w' (H ++ H') := (M.join M').perm List.perm_append_comm

/-- an 'else' that many roads come to, walked once -/
theorem wp_elsecut {P : Program} {Q : Exit → Act → World → Prop} {a : Act} {w : World} {R A B : Code} {t : Operand} (I : Act → World → Prop) (h2 : ∀ a w, I a w → B.wp P Q a w) (h1 : (∀ a w, I a w → B.wp P Q a w) → (Code.seq R (Code.cond t A B)).wp P Q a w) : (Code.seq R (Code.cond t A B)).wp P Q a w := h1 h2

end Go.Proofs.Ytafejnbfgkkjkaa
