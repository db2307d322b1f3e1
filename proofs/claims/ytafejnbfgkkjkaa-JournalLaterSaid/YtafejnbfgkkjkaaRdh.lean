/-
  Slices that read as bytes wherever some entries are owned.
-/
import Derived.Test.YtafejnbfgkkjkaaGX
namespace Go.Proofs.Ytafejnbfgkkjkaa
open Go.RowKit Go.Sort

/-- wherever these entries are owned, the slice reads as these bytes -/
def RdH (wc : World) (H : List Ent) (bv : Value) (bs : List UInt8) : Prop := ∀ w, Mem wc w H → Bs 0 w.heap.size w bv bs
theorem RdH.at {wc w : World} {H : List Ent} {e : Ent} {bv : Value} {bs : List UInt8} (h : RdH wc H bv bs) (M : Mem wc w (e :: H)) : Bs 0 w.heap.size w bv bs := h w (M.drop 0)
theorem RdH.cons {wc : World} {H : List Ent} {bv : Value} {bs : List UInt8} (h : RdH wc H bv bs) (e : Ent) : RdH wc (e :: H) bv bs := fun w M => h w (M.drop 0)
theorem RdH.cons2 {wc : World} {H : List Ent} {bv : Value} {bs : List UInt8} (h : RdH wc H bv bs) (e f : Ent) : RdH wc (e :: f :: H) bv bs := (h.cons f).cons e
theorem RdH.arg {wc : World} {H : List Ent} {bv : Value} {bs : List UInt8} (h : Bs 0 wc.heap.size wc bv bs) : RdH wc H bv bs := fun _ M => M.argW h
theorem RdH.own {wc : World} {H : List Ent} {bv : Value} {bs : List UInt8} {lo hi : Nat} (p : Nat) (h : H[p]? = some (.own lo hi (fun w => Bs lo hi w bv bs))) : RdH wc H bv bs := fun _ M =>
  (M.own p h).wide (Nat.zero_le _) (M.fits _ (List.mem_of_getElem? h)).2

end Go.Proofs.Ytafejnbfgkkjkaa
