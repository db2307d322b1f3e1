/-
  The second walk: append onto a slice that has no room.
-/
import Derived.Test.YtcpobgjoicadjaaVA
namespace Go.Proofs.Ytcpobgjoicadjaa
open Go.RowKit Go.Sort

variable {P : Program} {ops : Array Oper} {Q : Exit → Act → World → Prop} {rest : List Oper} {n d : Nat} {a : Act} {L : List (Nat × Value)} {w w0 : World} {v : Value} {o : Oper} {H : List Ent}

theorem Mem.appendG {t e sz by_ lo hi lo' hi' m k ty : Nat} {zc xs news : List Value} {u x : Value} (M : Mem w0 w H) (hI : sliceInfo P t = some (e, sz, by_, zc)) (hzs : zc.length = sz) (hu : Rd lo hi w sz u k xs) (hcap : capV u < k + m) (hx : Rd lo' hi' w sz x m news)
    (hb : (k + m) * by_ ≤ 140737488355328) (h63 : k + m ≤ maxLen) :
    ∃ v' w' l' h', (Builtin.append_ #[t, t] ty #[u, x]).run P w = .ok v' w' ∧ Mem w0 w' (rowE l' h' e sz v' (k + m) (xs ++ news) :: H) := by
  obtain ⟨hU, i, z, hi', hz, rfl, rfl, hzc⟩ := sliceInfo_spec hI
  have hzs' : z.cells.size = i.size := by rw [hzc]; simpa using hzs
  have hsmall : k + m ≤ 9223372036854775807 := by simp only [maxLen] at h63; omega
  have hlx : news.length = m * i.size := hx.1
  have hlen : (xs ++ news).length = (k + m) * i.size := by rw [List.length_append, hu.1, hlx, Nat.add_mul]
  have hku := hu.cap
  have grown : ∀ (old : Nat), Mem w0 (w.drew.alloc (.cells (xs.toArray ++ news.toArray ++ Builtin.zeroCells z.cells (grownCap w (k + m) old e - (k + m))) e))
      (rowE w.heap.size (w.heap.size + 1) e i.size (.slice (some ⟨w.heap.size, 0, none⟩) (k + m) (grownCap w (k + m) old e)) (k + m) (xs ++ news) :: H) := by
    intro old
    have hge := grownCap_ge w (k + m) old e
    have hcm : grownCap w (k + m) old e ≤ maxLen := grownCap_le_maxLen w (k + m) old e h63
    refine M.push (ext_alloc (ext_drew (ext_refl w)) _) _ (rowE_ok ⟨hlen, .inr ⟨w.heap.size, _, _, rfl, Nat.le_refl _, heap_alloc_new w.drew _, hge, hcm, ?_, ?_⟩⟩ (fun k hk => by simp [Value.ownBlock] at hk; omega)) (Nat.le_refl _) (by simp [rowE, Ent.hi])
    · simp only [Array.size_append, List.size_toArray, size_zeroCells, hzs', hu.1, hlx, ← Nat.add_mul]
      congr 1
      omega
    · simp only [Array.toList_append, List.append_assoc]
      rw [← List.append_assoc, ← hlen]
      exact List.take_left
  rcases hx.2.2 with ⟨rfl, rfl⟩ | ⟨ad', cap', rfl, hc', hcm', hat, hsp⟩
  · omega
  · have hnews := hat.addA (fun hne => (hsp (Nat.pos_of_ne_zero fun h0 => hne (List.eq_nil_of_length_eq_zero (by rw [hlx, h0, Nat.zero_mul])))).1)
    rcases hu.2.2 with ⟨rfl, rfl⟩ | ⟨ad, cap, rfl, hc, hcm, hau, hspu⟩
    · have hx0 : xs = [] := List.eq_nil_of_length_eq_zero (by simpa using hu.1)
      subst hx0
      simp only [capV] at hcap
      have hr := run_append_nil (P := P) w t ty e i z hU hi' hz ad' m cap' news hlx hnews (by omega) (by omega) (by have hb := hb; simp only [Nat.zero_add] at hb; omega)
      have hgr := grown 0
      simp only [Nat.zero_add, List.nil_append, Array.empty_append] at hgr ⊢
      exact ⟨_, _, _, _, hr, hgr⟩
    · simp only [capV] at hcap
      have holds := hau.addA (fun hne => (hspu (Nat.pos_of_ne_zero fun h0 => hne (List.eq_nil_of_length_eq_zero (by rw [hu.1, h0, Nat.zero_mul])))).1)
      have hr := run_append_grow (P := P) w t ty e i z hU hi' hz ad k cap xs hu.1 holds ad' m cap' news hlx hnews (by omega) (by omega) (growslice_fits (by omega) hb)
      exact ⟨_, _, _, _, hr, grown cap⟩

theorem st_appendG {t e sz by_ lo hi lo' hi' m k : Nat} {zc xs news : List Value} {u x : Value} {s y : Operand} (S : Sees n a L) (M : Mem w0 w H) {d : Nat} {ty : TypeId} {p : String} {ed : Array Edge} {g : Option (Nat × Bool)}
    (hg : gd ops L ⟨some d, .call { callee := .builtin .append, args := #[s, y], argTypes := #[t, t] }, ty, p, ed, g⟩ = some true) (hn : Nat.blt d n = true)
    (hI : sliceInfo P t = some (e, sz, by_, zc)) (hzs : zc.length = sz) (hs : val L s = some u) (hy : val L y = some x) (hu : Rd lo hi w sz u k xs) (hcap : capV u < k + m) (hx : Rd lo' hi' w sz x m news)
    (hb : (k + m) * by_ ≤ 140737488355328) (h63 : k + m ≤ maxLen)
    (kk : ∀ a w v' l' h', Sees n a ((d, v') :: L) → Mem w0 w (rowE l' h' e sz v' (k + m) (xs ++ news) :: H) → wpList P ops Q rest a w) :
    wpList P ops Q (⟨some d, .call { callee := .builtin .append, args := #[s, y], argTypes := #[t, t] }, ty, p, ed, g⟩ :: rest) a w := by
  obtain ⟨v', w', l', h', hr, M'⟩ := M.appendG (ty := ty) hI hzs hu hcap hx hb h63
  refine st_w (v := v') (w' := w') S hg rfl hn ?_ fun a S' => kk a w' v' l' h' S' M'
  obtain ⟨cs, h⟩ := run_builtin (P := P) (w := w) (b := .append) (xs := [s, y]) (vs := [u, x]) S (by simp [vals, hs, hy]) (d := some d) (ts := #[t, t]) (t := ty) (p := p) (e := ed) (g := g)
  rw [h]
  simp only [builtin, Sem.run_bind]
  rw [show [u, x].toArray = #[u, x] from rfl, hr]
  rfl

/-! ### arrays built -/
def buildInfoA (P : Program) (t : TypeId) : Option (Nat × List Value) :=
  match P.info? t with
  | some i => match i.zero with
    | some z => match P.underlying t with
      | some (.array _ e) => match P.info? e with
        | some ie => some (ie.size, z.cells.toList)
        | none => none
      | _ => none
    | none => none
  | none => none
theorem y_buildA {T : TypeId} {sz : Nat} {ps : List (Nat × Operand)} {z vs cs : List Value} (S : Sees n a L) (hB : buildInfoA P T = some (sz, z)) (hv : vals L (ps.map (·.2)) = some vs) (hf : fillL (fun i => some (i * sz, sz)) z ((ps.map (·.1)).zip vs) = some cs)
    {d : Option Tmp} {t : TypeId} {p : String} {e : Array Edge} {g : Option (Nat × Bool)} : Yields P a ⟨d, .build T ps.toArray, t, p, e, g⟩ w (.agg cs.toArray) := by
  unfold buildInfoA at hB
  cases hi : P.info? T with
  | none => simp [hi] at hB
  | some i =>
    simp only [hi] at hB
    cases hz : i.zero with
    | none => simp [hz] at hB
    | some zv =>
      simp only [hz] at hB
      cases hu : P.underlying T with
      | none => simp [hu] at hB
      | some td =>
        rw [hu] at hB
        cases td <;> simp only [reduceCtorEq] at hB
        rename_i m el
        cases hie : P.info? el with
        | none => simp [hie] at hB
        | some ie =>
          simp only [hie, Option.some.injEq, Prod.mk.injEq] at hB
          obtain ⟨rfl, rfl⟩ := hB
          have hparts : (ps.toArray.map fun (x : Nat × Operand) => (x.1, a.eval x.2)).toList = (ps.map (·.1)).zip vs := by
            rw [← S.evals hv, ← zip_eval a.eval ps]; simp
          have hfill := fill_of_fillL _ _ _ hf
          unfold Yields execOp
          simp only [Instr.build, Sem.run_bind]
          rw [show (zeroValue T).run P w = .ok zv w by simp [zeroValue, typeInfo, hi, hz, go_sem]]
          simp only [Result.andThen_ok]
          rw [show (underlying T).run P w = .ok (.array m el) w by simp [underlying, hu, go_sem]]
          simp only [Result.andThen_ok, Sem.run_bind, run_sizeOf hie, hparts]
          rw [Array.toArray_toList] at hfill
          rw [hfill]
          rfl

end Go.Proofs.Ytcpobgjoicadjaa
