/-
  Package lock: the last question of Release.
-/
import Derived.Test.YtcbofgcmfkcglaaLo
namespace Go.Proofs.Ytcbofgcmfkcglaa
open Go.RowKit Go.Sort

theorem y_lookupB {κ : Type} [DecidableEq κ] {enc : κ → Value} {ds : List Deferred} {P : Program} {n : Nat} {a : Act} {L : List (Nat × Value)} {w : World} {t kt e b c : Nat} {l : Mes κ} {z : Value} {k : κ} {cm : Bool} {x y : Operand} (S : SeesD ds n a L) (hb : w.heap[b]? = some (.map (l.map (·.2)).toArray c)) (K : KeyT P kt enc) (G : Good enc l c) (ht : P.underlying t = some (.map kt e)) (hz : ∀ w, (zeroValue e).run P w = .ok z w) (hx : val L x = some (.map (some b))) (hy : val L y = some (enc k)) {d : Option Tmp} {ty : TypeId} {p : String} {ed : Array Edge} {g : Option (Nat × Bool)} :
    Yields P a ⟨d, .lookup t x y cm, ty, p, ed, g⟩ w (if cm = true then .tuple #[(getM l k).getD z, .bool (decide (k ∈ l.map (·.1)))] else (getM l k).getD z) := by
  unfold Yields execOp
  simp only [S.eval hx, S.eval hy, Sem.run_bind, run_lookupM K G ht (hz w) hb, Result.andThen]
  rfl
theorem rel3_any (x : Lk) (bG g c : Nat) (ml : Mes Pl) (v : Int) (w : World) (hBk : Blk w bG #[.map (some g)] 72) (hg : w.heap[g]? = some (.map (ml.map (·.2)).toArray c)) (hG : Good encP ml c) (hv : (getM ml x.pl).getD (.int .i8 0) = .int .i8 v) :
    Calls Try.prog 31 #[.agg x.cellsL.toArray, .pointer (some ⟨bG, 0, none⟩)] w fun e w' => e = .returned (.bool (v == 0)) ∧ Below w.heap.size w w' := by
  have M := Mem.start w
  have hlt : g < w.heap.size := (Array.getElem?_eq_some_iff.1 hg).1
  refine calls_enter Try.func31 rfl 9 rfl rfl ?_; intro a S
  refine nxD ?_
  refine st_box S M rfl rfl rfl #[_, _, _, _, _] rfl ?_; clear S M a; intro a w1 bX S M hB
  refine st_go [1] S rfl (by kernel_rfl) ?_; clear S a; intro a S
  refine nxC ?_
  refine wp_seq ?_
  refine wp_quiet M (by kernel_rfl) (by kernel_rfl) ?_
  refine qt_y S rfl rfl rfl (fun w M => y_load S (by kernel_rfl) rfl (show World.cell? _ ⟨bG, 0, none⟩ = some (.map (some g)) from Blk.cells (show Blk _ bG #[.map (some g)] 72 from (M.below.block bG hBk.lt).trans hBk) 0)) ?_; clear S a; intro a S
  refine qt_y S rfl rfl rfl (fun w M => y_loadAgg (cs := [_, _, _, _, _]) S (by kernel_rfl) rfl rfl (M.cellsAt (k := 5) 0 rfl rfl)) ?_; clear S a; intro a S
  refine qt_call (xs := [(Operand.tmp 5)]) S (enters_of Try.func19 (by decide) rfl) rfl rfl rfl (quiet_of fun w M => at_any x _) ?_; clear S a; intro a S
  refine qt_y S rfl rfl rfl (fun w M => y_lookupB S ((M.below.block g hlt).trans hg) (keyP) (hG) Try.underlying72 (zero_i8) rfl rfl) ?_; clear S a; intro a S
  simp only [Bool.false_eq_true, if_false, hv] at S
  refine qt_y S rfl rfl rfl (fun w M => y_int S rfl rfl rfl) ?_; clear S a; intro a S
  refine qt_y S rfl rfl rfl (fun w M => y_assign S rfl) ?_; clear S a; intro a S
  refine wpQuiet_nil ?_; clear M; intro w3 M
  refine then_normal ?_
  refine wp_ret ?_
  refine end_one S rfl (res_tmp rfl) ?_
  exact ⟨rfl, M.below⟩

end Go.Proofs.Ytcbofgcmfkcglaa
