/-
  Rows of messages, each with its writes.
-/
import Derived.Test.YtidpeojkkfmgeaaWs
namespace Go.Proofs.Ytidpeojkkfmgeaa
open Go.RowKit Go.Sort

/-- the slice v reads as these messages, each with its writes -/
def MsC (cs : List Value) (lo hi : Nat) (w : World) (v : Value) (ms : List (Msg × List Wr)) : Prop :=
  Rd lo hi w 24 v ms.length cs ∧ ∀ (i : Nat) (q : Msg × List Wr), ms[i]? = some q → ∃ lv, (cs.drop (i * 24)).take 24 = (q.1.cells lv).toList ∧ Ws lo hi w lv q.2
theorem MsC.same {cs : List Value} {lo hi : Nat} {w w' : World} {v : Value} {ms : List (Msg × List Wr)} (h : MsC cs lo hi w v ms) (hs : SameOn lo hi w w') : MsC cs lo hi w' v ms :=
  ⟨h.1.same hs, fun i q hi => let ⟨lv, e, hb⟩ := h.2 i q hi; ⟨lv, e, hb.same hs⟩⟩
theorem Mem.ms {w0 w : World} {H : List Ent} {cs : List Value} {v : Value} {ms : List (Msg × List Wr)} (M : Mem w0 w H) (h : MsC cs 0 w0.heap.size w0 v ms) : MsC cs 0 w0.heap.size w v ms := h.same fun k _ h2 => M.below.block k h2

end Go.Proofs.Ytidpeojkkfmgeaa
