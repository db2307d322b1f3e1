/-
  Many rows of numbers of one's own, told as one list.
-/
import Derived.Test.YtcbofgcmfkcglaaJoin
import Derived.Test.YtcbofgcmfkcglaaIc
import Derived.Test.YtcbofgcmfkcglaaGX
namespace Go.Proofs.Ytcbofgcmfkcglaa
open Go.RowKit Go.Sort
variable {ds : List Deferred}
variable {P : Program} {ops : Array Oper} {Q : Exit → Act → World → Prop} {rest : List Oper} {n d : Nat} {a : Act} {L : List (Nat × Value)} {w w0 : World} {v : Value} {o : Oper} {H : List Ent}

structure RI where
  lo : Nat
  hi : Nat
  a : Option Addr
  c : Nat
  zs : List Int
abbrev RI.val (r : RI) : Value := .slice r.a r.zs.length r.c
def RI.ent (r : RI) : Ent := rowE r.lo r.hi 3 1 r.val r.zs.length (icells r.zs)
def rowsE (R : List RI) : List Ent := R.map RI.ent
def rowsV (R : List RI) : List Value := R.map RI.val
theorem rowsV_len (R : List RI) : (rowsV R).length = R.length := by simp [rowsV]
theorem rowsV_get {R : List RI} {k : Nat} {r : RI} (h : R[k]? = some r) : (rowsV R).toArray[k]? = some r.val := by
  rw [List.getElem?_toArray]; unfold rowsV; rw [List.getElem?_map, h]; rfl
theorem rowsV_put {R : List RI} {k : Nat} (hk : k < R.length) (r : RI) : putL (rowsV R) k [r.val] = rowsV (R.set k r) := by
  have e := List.getElem?_eq_getElem hk
  unfold rowsV
  conv => lhs; rw [← List.take_append_drop k R, List.drop_eq_getElem_cons hk]
  rw [List.map_append, List.map_cons]
  have := putL_mid (A := (R.take k).map RI.val) (B := [RI.val R[k]]) (C := (R.drop (k + 1)).map RI.val) (us := [r.val]) rfl
  rw [show ((R.take k).map RI.val).length = k by simp; omega] at this
  refine this.trans ?_
  rw [List.set_eq_take_append_cons_drop, if_pos hk]
  simp
theorem Mem.rowsNil (M : Mem w0 w H) : ∀ k, Mem w0 w (H ++ rowsE (List.replicate k ⟨w.heap.size, w.heap.size, none, 0, []⟩))
  | 0 => by simpa [rowsE] using M
  | k + 1 => by
    have := (M.rowsNil k).rowNil 3 1
    refine this.perm ?_
    rw [List.replicate_succ]
    show (RI.ent ⟨w.heap.size, w.heap.size, none, 0, []⟩ :: (H ++ rowsE (List.replicate k ⟨w.heap.size, w.heap.size, none, 0, []⟩))).Perm (H ++ (RI.ent ⟨w.heap.size, w.heap.size, none, 0, []⟩ :: rowsE (List.replicate k ⟨w.heap.size, w.heap.size, none, 0, []⟩)))
    exact List.perm_middle.symm
theorem Mem.rowsGet {A : List Ent} {R : List RI} {k : Nat} {r : RI} (M : Mem w0 w (A ++ rowsE R)) (hk : R[k]? = some r) (hm : r.zs.length ≤ maxLen) : Rd 0 w.heap.size w 1 r.val r.zs.length (icells r.zs) := by
  have hp : (A ++ rowsE R)[A.length + k]? = some r.ent := by
    rw [List.getElem?_append_right (by omega), show A.length + k - A.length = k by omega]; unfold rowsE; rw [List.getElem?_map, hk]; rfl
  exact M.readAll (A.length + k) hp hm
theorem Mem.rowsSet {A : List Ent} {R : List RI} {k : Nat} {r : RI} (hk : k < R.length) (M : Mem w0 w (r.ent :: (A ++ (rowsE R).eraseIdx k))) : Mem w0 w (A ++ rowsE (R.set k r)) := by
  refine M.perm ?_
  have h1 : (rowsE (R.set k r))[k]? = some r.ent := by unfold rowsE; rw [List.getElem?_map, List.getElem?_set_self hk]; rfl
  obtain ⟨h2, h3⟩ := List.getElem?_eq_some_iff.1 h1
  have h4 := perm_front (rowsE (R.set k r)) k h2
  rw [h3] at h4
  have h5 : (rowsE (R.set k r)).eraseIdx k = (rowsE R).eraseIdx k := by unfold rowsE; rw [List.map_set, List.eraseIdx_set_eq]
  rw [h5] at h4
  exact List.perm_middle.symm.trans (List.Perm.append_left A h4)
/-- a number more behind one of the rows -/
theorem st_appendI {A : List Ent} {R : List RI} {k lo hi t : Nat} {r : RI} {z : Int} {x : Value} {s y : Operand} (S : SeesD ds n a L) (M : Mem w0 w (A ++ rowsE R)) (hk : R[k]? = some r) (hl : r.zs.length ≤ 1000000) {d : Nat} {ty : TypeId} {p : String} {ed : Array Edge} {g : Option (Nat × Bool)}
    (hg : gd ops L ⟨some d, .call { callee := .builtin .append, args := #[s, y], argTypes := #[t, t] }, ty, p, ed, g⟩ = some true) (hn : Nat.blt d n = true)
    (hI : sliceInfo P t = some (3, 1, 8, [.int .i64 0])) (hs : val L s = some r.val) (hy : val L y = some x) (hx : Rd lo hi w 1 x 1 [.int .i64 z])
    (kk : ∀ a w r', r'.zs = r.zs ++ [z] → SeesD ds n a ((d, r'.val) :: L) → Mem w0 w (A ++ rowsE (R.set k r')) → wpList P ops Q rest a w) :
    wpList P ops Q (⟨some d, .call { callee := .builtin .append, args := #[s, y], argTypes := #[t, t] }, ty, p, ed, g⟩ :: rest) a w := by
  have hp : (A ++ rowsE R)[A.length + k]? = some r.ent := by
    rw [List.getElem?_append_right (by omega), show A.length + k - A.length = k by omega]; unfold rowsE; rw [List.getElem?_map, hk]; rfl
  refine st_append S M (A.length + k) hg hn hI rfl (by decide) hs hy hp hx rfl (by omega) (by unfold maxLen; omega) fun a w v' l' h' S' M' => ?_
  rw [List.eraseIdx_append_of_length_le (by omega), show A.length + k - A.length = k by omega] at M'
  obtain ⟨ad, cap, rfl, -, -⟩ := (M'.readAll 0 rfl (by unfold maxLen; omega)).form
  have e1 : (r.zs ++ [z]).length = r.zs.length + 1 := by simp
  have e2 : icells (r.zs ++ [z]) = icells r.zs ++ [.int .i64 z] := by simp [icells]
  refine kk a w ⟨l', h', ad, cap, r.zs ++ [z]⟩ rfl (by unfold RI.val; rw [e1]; exact S') (Mem.rowsSet (List.getElem?_eq_some_iff.1 hk).1 ?_)
  unfold RI.ent RI.val
  simp only [e1, e2]
  exact M'

end Go.Proofs.Ytcbofgcmfkcglaa
