/-
  copy of elements of any size; append of zeros where there is no room; slices.overlaps of two blocks.
-/
import Derived.Test.YtafejnbfgkkjkaaGX
import Derived.Lib.Overlaps
import Derived.Lib.AppendZerosOnto
namespace Go.Proofs.Ytafejnbfgkkjkaa
open Go.RowKit Go.Sort
variable {ds : List Deferred}
variable {P : Program} {ops : Array Oper} {Q : Exit → Act → World → Prop} {rest : List Oper} {n d : Nat} {a : Act} {L : List (Nat × Value)} {w w0 : World} {v : Value} {o : Oper} {H : List Ent}

theorem run_copyN (w : World) (dT sT ty elem : TypeId) (g o dLen dCap : Nat) (ad : Addr) (sLen sCap sz : Nat) (cur : Array Value) (t : TypeId) (cs : List Value)
    (hu : P.underlying dT = some (.slice elem)) (hs : (P.info? elem).map (·.size) = some sz) (hg : w.heap[g]? = some (.cells cur t (0, 0))) (hn : cs.length = Nat.min sLen dLen * sz)
    (hsrc : ∀ j v, cs[j]? = some v → w.cell? (ad.add j) = some v) (hfit : o + cs.length ≤ cur.size) (h1 : ∀ v ∈ cs, v.oneCell' = true) :
    (Builtin.copy_ #[dT, sT] ty #[.slice (some ⟨g, o, none⟩) dLen dCap, .slice (some ad) sLen sCap]).run P w = .ok (goInt (Nat.min sLen dLen)) (w.setRow g (cur.toList.take o ++ cs ++ cur.toList.drop (o + cs.length)).toArray) := by
  have hl := run_loadCells_list (P := P) w ad cs hsrc
  have hst := run_storeCells_at P g o t cs 0 cur w hg (by simpa using hfit) h1
  cases hq : P.info? elem with
  | none => simp [hq] at hs
  | some i =>
    have hi : i.size = sz := by simpa [hq] using hs
    rw [hn] at hl
    simp [Builtin.copy_, run_underlying hu, Builtin.lenOf, Builtin.firstCells, sizeOf, typeInfo, hq, hi, hl, hst]
/-- 'copy' into a block of one's own, elements of any size -/
theorem st_copyN {t e sz b o dl dc b2 o2 sl sc : Nat} {s y : Operand} {l us : List Value} {T : TypeId} (S : SeesD ds n a L) (M : Mem w0 w H) (pos : Nat) {d : Nat} {ty : TypeId} {p : String} {ed : Array Edge} {g : Option (Nat × Bool)}
    (hg : gd ops L ⟨some d, .call { callee := .builtin .copy, args := #[s, y], argTypes := #[t, t] }, ty, p, ed, g⟩ = some true) (hn : Nat.blt d n = true)
    (hE : sliceElem P t = some (e, sz)) (hs : val L s = some (.slice (some ⟨b, o, none⟩) dl dc)) (hy : val L y = some (.slice (some ⟨b2, o2, none⟩) sl sc)) (hp : H[pos]? = some (.blk b l.toArray T)) (hc : CellsAt w b2 o2 us) (hl : us.length = Nat.min sl dl * sz) (h1 : allOne us = true) (hfit : o + us.length ≤ l.length)
    (kk : ∀ a w, SeesD ds n a ((d, .int .i64 ((Nat.min sl dl : Nat) : Int)) :: L) → Mem w0 w (H.set pos (.blk b (l.take o ++ us ++ l.drop (o + us.length)).toArray T)) → wpList P ops Q rest a w) :
    wpList P ops Q (⟨some d, .call { callee := .builtin .copy, args := #[s, y], argTypes := #[t, t] }, ty, p, ed, g⟩ :: rest) a w := by
  obtain ⟨hu, inf, hinf, hsz⟩ := sliceElem_spec hE
  have B := M.blk pos hp
  obtain ⟨cs', hrun⟩ := run_builtin (P := P) (w := w) (b := .copy) (xs := [s, y]) (vs := [.slice (some ⟨b, o, none⟩) dl dc, .slice (some ⟨b2, o2, none⟩) sl sc]) S (by simp [vals, hs, hy]) (d := some d) (ts := #[t, t]) (t := ty) (p := p) (e := ed) (g := g)
  have hr := run_copyN (P := P) w t t ty e b o dl dc ⟨b2, o2, none⟩ sl sc sz l.toArray T us hu (by simp [hinf, hsz]) B hl hc.add (by simpa using hfit) (allOne_spec h1)
  refine st_w (v := .int .i64 ((Nat.min sl dl : Nat) : Int)) (w' := _) S hg rfl hn (by
    rw [hrun]
    simp only [builtin, Sem.run_bind]
    rw [show [Value.slice (some ⟨b, o, none⟩) dl dc, .slice (some ⟨b2, o2, none⟩) sl sc].toArray = #[.slice (some ⟨b, o, none⟩) dl dc, .slice (some ⟨b2, o2, none⟩) sl sc] from rfl, hr]
    rfl) fun a S' => kk a _ S' ?_
  exact M.change pos hp rfl rfl (setRow_heap w b l.toArray _ T _ B) (by simp [World.setRow]) rfl rfl rfl (fun k hk => setRow_other w b k _ (fun e => hk (by subst e; simp [Ent.lo, Ent.hi])))

/-- 'append(s, make(S, k)...)' where s has no room for k more -/
theorem st_appendZ {t tn e sz by_ i k c g0 : Nat} {kn kq : IntKind} {zc xs cur : List Value} {s y : Operand} {T : TypeId} (S : SeesD ds n a L) (M : Mem w0 w H) (pos : Nat) {d : Nat} {ty : TypeId} {p : String} {ed : Array Edge} {g : Option (Nat × Bool)}
    (hg : gd ops L ⟨some d, .call { callee := .builtin .append, args := #[s, y], argTypes := #[t, tn] }, ty, p, ed, g⟩ = some true) (hn : Nat.blt d n = true)
    (hI : sliceInfo P t = some (e, sz, by_, zc)) (htn : P.underlying tn = some (.int kn)) (hzs : zc.length = sz) (hsz : 0 < sz) (hs : val L s = some (.slice (some ⟨g0, 0, none⟩) i c)) (hy : val L y = some (.int kq (k : Int))) (hp : H[pos]? = some (.blk g0 cur.toArray T)) (hx : cur.take (i * sz) = xs) (hxl : xs.length = i * sz)
    (hk : 0 < k) (hroom : c < i + k) (hb : (i + k) * by_ ≤ 140737488355328) (h63 : i + k ≤ maxLen)
    (kk : ∀ a w b cap more, SeesD ds n a ((d, .slice (some ⟨b, 0, none⟩) (i + k) cap) :: L) → i + k ≤ cap → cap ≤ maxLen → (xs ++ more).length = cap * sz → Mem w0 w (.blk b (xs ++ more).toArray e :: H) → wpList P ops Q rest a w) :
    wpList P ops Q (⟨some d, .call { callee := .builtin .append, args := #[s, y], argTypes := #[t, tn] }, ty, p, ed, g⟩ :: rest) a w := by
  obtain ⟨hu, inf, z, hi', hz, rfl, rfl, hzc⟩ := sliceInfo_spec hI
  have B := M.blk pos hp
  have hzs' : z.cells.size = inf.size := by rw [hzc]; simpa using hzs
  have hcell : ∀ j v, xs[j]? = some v → w.drew.cell? ((⟨g0, 0, none⟩ : Addr).add j) = some v := fun j v hj => by
    rw [addr_add, Nat.zero_add]
    have : w.drew.heap = w.heap := rfl
    unfold World.cell?
    rw [this, B]
    rw [← hx] at hj
    have hlt := (List.getElem?_eq_some_iff.1 hj).1
    rw [List.getElem?_take_of_lt (by simp at hlt; omega)] at hj
    simpa using hj
  have hl := run_loadCells_list (P := P) w.drew ⟨g0, 0, none⟩ xs hcell
  rw [hxl] at hl
  have hge := grownCap_ge w (i + k) c e
  have hcm : grownCap w (i + k) c e ≤ maxLen := grownCap_le_maxLen w (i + k) c e h63
  have hr := Lib.run_append_grow_zeros (P := P) w t tn ty e inf z kq kn hu htn hi' hz (some ⟨g0, 0, none⟩) i c xs (by simpa [Builtin.firstCells] using hl) k hk hsz hroom (by unfold maxLen at h63; omega)
    (Nat.le_trans (Nat.mul_le_mul_right _ (Nat.le_add_left k i)) (by omega)) (growslice_fits (by omega) hb)
  obtain ⟨cs', hrun⟩ := run_builtin (P := P) (w := w) (b := .append) (xs := [s, y]) (vs := [.slice (some ⟨g0, 0, none⟩) i c, .int kq (k : Int)]) S (by simp [vals, hs, hy]) (d := some d) (ts := #[t, tn]) (t := ty) (p := p) (e := ed) (g := g)
  refine st_w (v := .slice (some ⟨w.heap.size, 0, none⟩) (i + k) (grownCap w (i + k) c e)) (w' := _) S hg rfl hn (by
    rw [hrun]
    simp only [builtin, Sem.run_bind]
    rw [show [Value.slice (some ⟨g0, 0, none⟩) i c, .int kq (k : Int)].toArray = #[.slice (some ⟨g0, 0, none⟩) i c, .int kq (k : Int)] from rfl, hr]
    rfl) fun a S' => kk a _ w.heap.size (grownCap w (i + k) c e) ((Builtin.zeroCells z.cells k).toList ++ (Builtin.zeroCells z.cells (grownCap w (i + k) c e - (i + k))).toList) S' hge hcm ?_ ?_
  · simp only [List.length_append, Array.length_toList, size_zeroCells, hxl, hzs', ← Nat.add_mul]
    congr 1; omega
  · have e1 : (xs ++ ((Builtin.zeroCells z.cells k).toList ++ (Builtin.zeroCells z.cells (grownCap w (i + k) c e - (i + k))).toList)).toArray = xs.toArray ++ Builtin.zeroCells z.cells k ++ Builtin.zeroCells z.cells (grownCap w (i + k) c e - (i + k)) := by
      apply Array.ext'; simp
    rw [e1]
    exact M.drew.alloc _ _

/-- the library's question whether two slices overlap, of two blocks: no -/
theorem st_overlaps {f : FuncId} {fn : Func} {tS tR e : TypeId} {size b1 o1 l1 c1 b2 o2 l2 c2 : Nat} {x y : Operand} {A1 A2 : Array Value} {T1 T2 : TypeId} (S : SeesD ds n a L) (M : Mem w0 w H) {d : Nat} {ts : Array TypeId} {t : TypeId} {p : String} {ed : Array Edge} {g : Option (Nat × Bool)} (p1 p2 : Nat)
    (hf : P.funcs[f]? = some fn) (h1 : (fn.name == "runtime.NumGoroutine") = false) (h2 : fn.body.isNone = true) (h3 : Extern.findNext fn = none) (h4 : Extern.find fn = some (Extern.SlicesOverlaps.overlaps #[tS, tS] #[tR]))
    (hE : sliceElem P tS = some (e, size))
    (hg : gd ops L ⟨some d, .call { callee := .value (.func f), args := #[x, y], argTypes := ts }, t, p, ed, g⟩ = some true) (hn : Nat.blt d n = true) (hx : val L x = some (.slice (some ⟨b1, o1, none⟩) l1 c1)) (hy : val L y = some (.slice (some ⟨b2, o2, none⟩) l2 c2)) (hne : b1 ≠ b2)
    (hp1 : H[p1]? = some (.blk b1 A1 T1)) (hp2 : H[p2]? = some (.blk b2 A2 T2)) (hA2 : A2.size ≠ 0)
    (k : ∀ a, SeesD ds n a ((d, .bool false) :: L) → wpList P ops Q rest a w) : wpList P ops Q (⟨some d, .call { callee := .value (.func f), args := #[x, y], argTypes := ts }, t, p, ed, g⟩ :: rest) a w := by
  have B1 := M.blk p1 hp1
  have B2 := M.blk p2 hp2
  unfold Blk at B1 B2
  obtain ⟨hu, inf, hinf, rfl⟩ := sliceElem_spec hE
  refine st_w (v := .bool false) (w' := w) S hg rfl hn ?_ fun a S' => k a S'
  have h : #[x, y].map a.eval = #[.slice (some ⟨b1, o1, none⟩) l1 c1, .slice (some ⟨b2, o2, none⟩) l2 c2] := by simp [S.eval hx, S.eval hy]
  unfold execOp
  simp only [resolve, h, Act.eval, Deferred.ofValue, Sem.run_bind, Sem.run_pure, Result.andThen_ok, invoke, Array.append_empty, Array.empty_append]
  rw [run_callFunc_extern hf h1 h2 h3 h4, Lib.run_overlaps_apart w tS tR e hu inf.size (fun w => run_sizeOf hinf) ⟨b1, o1, none⟩ ⟨b2, o2, none⟩ l1 c1 l2 c2 hne T1 T2 A1.size A2.size (by simp [World.shape?, B1]) (by simp [World.shape?, B2]) hA2 (by simp [World.frozen?, B1]) (by simp [World.frozen?, B1])]
  rfl

end Go.Proofs.Ytafejnbfgkkjkaa
