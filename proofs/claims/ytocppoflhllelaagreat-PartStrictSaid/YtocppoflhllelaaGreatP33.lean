/-
  What PartStrict rests on, part 33.
-/
import Derived.Test.YtocppoflhllelaaGreatP31
namespace Go.Proofs.YtocppoflhllelaaGreat
open Go.RowKit Go.Sort
def su18 : Su := { Y6 with owned := 255, inc := 1 }
theorem K2 : su18.may := by unfold Su.may; refine ⟨fun k hk => ?_, by decide⟩; rcases lt8 hk with rfl | rfl | rfl | rfl | rfl | rfl | rfl | rfl <;> decide
def r18 : RS := (RS.new.write 0 (VN su18)).flush
def d18 : DS := ((DS.new.write 0 (VN su18)).write 1 zero64).flush
def ZE (z : Nat) : List UInt8 := if z = 0 then VN su18 else zero64
theorem Wd {z : Nat} (h : z < 34) : r18.get (z : Int) = ZE z := by
 have e : r18 = ⟨(List.replicate 34 (List.replicate 64 0)).set 0 (VN su18), []⟩ := rfl
 rw [e]
 unfold RS.get ZE
 show ((List.replicate 34 (List.replicate 64 0)).set 0 (VN su18)).getD (z : Int).toNat [] = _
 rw [Int.toNat_natCast, List.getD_eq_getElem?_getD]
 by_cases h0 : z = 0
 ·grind
 ·rw [if_neg h0, List.getElem?_set_ne o_, List.getElem?_replicate, if_pos h]; rfl
theorem Wu {z : Nat} (h : z < 34) : d18.get z = ZE z := by
 unfold d18
 rw [Jex]
 unfold DS.get DS.write ZE
 simp only
 by_cases h0 : z = 0
 ·grind
 ·by_cases h1 : z = 1
  ·grind
  ·rw [if_neg o_, if_neg o_, if_neg h0]
   show DS.new.dur z = _
   exact Jca z h
theorem JgJ {sec : Nat → List UInt8} (h : ∀ z, z < 2 → sec z = ZE z) : SupI sec su18 := by
 refine ⟨K2, h 0 o_, fun k x hk hne hx => ?_⟩
 have hne : k ≠ 0 := hne
 rw [h k hk, ZE, if_neg hne, GP d_ d_] at hx
 cases hx
theorem WE : JB zero64 = true := Qx 64
theorem JiS : JjE d18 := fun k hk => by grind [Wu, ZE, WE]
theorem Jgf (b : Nat) (cs : List Value) (h : cs.length = 273) : YY (fun i => [(0, 1), (1, 273)][i]?) KX [(0, pB b), (1, .agg cs.toArray)] = some (pB b :: cs) := by
 have e0 : Jt KX 0 [pB b] = [pB b] ++ (zSt.cellsL (.slice none 0 0) ++ []) := rfl
 rw [UN (us := [pB b]) (off := 0) (sz := 1) rfl rfl rfl (by grind), e0, vT (us := cs) (off := 1) (sz := 273) rfl rfl h (by grind [St.len, JH])]
 grind [Yc, St.len, JH]
theorem E9 {wo w : World} {A E : List Ent} {b : Nat} {S0 : RS} {x : Su} (hE : R3E b S0 E) (M : Mem wo w (A ++ E)) (hc : S0.cache.length ≤ 1000) (hg : gsR (Vx S0) = (x, 0)) (ht : 1 ≤ x.tail ∧ x.tail ≤ 1099511627776) (hz : ∀ k, k < 8 → JB (S0.get (26 + ((k : Nat) : Int))) = true) (hs : S0.get (2 + x.tail % 24) = zer64) :
 CT 24 #[p_ b] w fun e w' => ∃ b2, e = .returned (.tuple #[p_ b2, .int .i64 0]) ∧ Mem wo w' (A ++ E) := by
 refine qI Tryz.func24 18 ?_
 refine gp [[2,1,1],[4,1]] ?_; intro a S
 refine qD S rfl (Jaa hE M hc hg ht hz hs) ?_
 rintro _ w1 ⟨cs, hcl, hco, rfl, M1⟩; have M := M1; clear M1
 refine gp [[0,1,1,1]] ?_; intro a S
 refine qN S M (zSt.cellsL (.slice none 0 0)).toArray ?_; intro a w2 bST S M hB
 refine JN (sz := 273) S M 0 rfl k_ rfl rfl o_ o_ rfl (by grind [St.len, JH]) ?_; intro w3 M
 replace M := M.s_
 refine gp [[0,1],[5,1,1],[2],[941,12],[5,1]] ?_; intro a S
 refine qY S (Ja (k := 273) (cs := _) S k_ rfl o_ (M.cellsAt 0 rfl JC)) ?_; intro a S
 refine qY S (JW (ps := [(0, .tmp 14), (1, .tmp 15)]) (pl := [(0, 1), (1, 273)]) (z := KX) (cs := pB b :: cs) S k_ rfl (Jgf b cs hcl)) ?_; intro a S
 refine VA S M rfl rfl rfl _ rfl ?_; intro a w4 bQ S M hB
 refine gp [[0,1,1],[3],[931]] ?_
 exact ⟨bQ, rfl, (M.drop 0).drop 0⟩
def KG : Nat → DS
 | 0 => DS.new
 | 1 => DS.new.write 0 (VN su18)
 | _ => (DS.new.write 0 (VN su18)).write 1 zero64
theorem Jc4 : r18.sure = (List.replicate 34 (List.replicate 64 0)).set 0 (VN su18) := rfl
theorem GO : ∀ b ∈ r18.sure, b.length = 64 := fun b hb => by
 grind [Jc4, Jfh]
theorem WK {k : Nat} (h : k < 34) : r18.sure[k]? = some (ZE k) := by
 rw [Jc4]
 unfold ZE
 by_cases h0 : k = 0
 ·grind
 ·rw [if_neg h0, List.getElem?_set_ne o_, List.getElem?_replicate, if_pos h]; rfl
theorem Jcb {k : Nat} (h : k < 2) : (KG k).write (k : Int) (ZE k) = KG (k + 1) := by
 have : k = 0 ∨ k = 1 := by omega
 rcases this with rfl | rfl <;> rfl
theorem Gr (k : Nat) : (KG k).down = false ∧ ∀ z, ((KG k).cache z).length ≤ 2 := by
 match k with
 | 0 => exact ⟨rfl, fun _ => Nat.zero_le _⟩
 | 1 => exact ⟨rfl, fun z => by
    have h1 : ∀ z, (((DS.new).write 0 (VN su18)).cache z).length ≤ 0 + 1 := Yp (S := DS.new) (m := 0) fun _ => (Nat.zero_le 0 : 0 ≤ 0)
    exact Nat.le_trans (h1 z) d_⟩
 | k + 2 => exact ⟨rfl, fun z => by
    have h1 : ∀ z, (((DS.new).write 0 (VN su18)).cache z).length ≤ 0 + 1 := Yp (S := DS.new) (m := 0) fun _ => (Nat.zero_le 0 : 0 ≤ 0)
    exact Yp (m := 1) h1 z⟩
set_option maxHeartbeats 4000000 in
set_option maxRecDepth 10000 in
theorem GR (w : World) : CT 5 #[.int .i64 255, .slice none 0 0] w fun e w' => ∃ bs bd b2, e = .returned (.tuple #[pB bs, p_ b2, .bool true]) ∧ ShM w w' [] bs bd (shF su18 1) d18 := by
 have M := Mem.start w
 refine qI Tryz.func5 121 ?_
 refine gp [[2,1,1,1],[4]] ?_; intro a S
 refine qD S rfl (JfQ _) ?_
 rintro _ w1 ⟨bR, E1, rfl, hE1, M1⟩; refine rv_ ?_; intro a S; replace M := M.join M1; clear M1
 rw [List.append_nil] at M
 refine qG [1] S ?_; intro a S
 refine nxA (qK S rfl (UJ _) M ?_); intro a w2 S hK M
 refine qN S M cz2 ?_; intro a w3 bSU S M hB
 refine go [[900,0],[4,1,3],[900,0],[4,4],[900,0],[5,1],[902,0,13]] ?_; intro a w6 S M
 refine qD S rfl (JdP (A := [_]) su18 hE1 M d_ K2) ?_
 rintro _ w7 ⟨E2, rfl, hE2, M2⟩; refine rv_ ?_; intro a S; have M := M2; clear M2
 replace M := M.c_
 refine gp [[0,1],[2],[941,25],[5,1]] ?_; intro a S
 refine qD S rfl (Jb2 (A := [_]) hE2 M d_) ?_
 rintro _ w8 ⟨rfl, E3, hE3, M2⟩; refine rv_ ?_; intro a S
 have hR : (RS.new.write (su18.gen % 2) (VN su18)).flush = r18 := rfl
 rw [hR] at hE3
 replace M := M2.drop 0; clear M2
 simp only [List.eraseIdx_cons_zero, List.cons_append, List.nil_append] at M
 refine nxA (qD S rfl (JhR _) ?_)
 rintro _ w9 ⟨b, E, rfl, hE, M1⟩; replace M := M.join M1; clear M1
 refine gp [[0,1],[4,1]] ?_; intro a S
 refine qD S rfl (Eu hE3 M) ?_
 rintro _ w10 ⟨q, rfl, hq, M2⟩; refine rv_ ?_; intro a S
 have hqs : q.bs.length = 2176 := by rw [hq, UH GO]; rfl
 replace M := M2.perm (List.Perm.cons _ (List.perm_append_comm (l₁ := E) (l₂ := E3))); clear M2
 refine gp [[0,1],[5,1],[3]] ?_; intro a S
 refine Jc (fun m a w' => ∃ (k : Nat) (E : List Ent), k ≤ 2 ∧ m = 2 - k ∧ DkE b (KG k) E ∧ Jk 121 a [(1, .slice none 0 0), (7, p_ bR), (9, p_ b), (10, q.val), (11, .int .i64 (k : Int))] ∧ Mem w w' (q.ent :: (E3 ++ E))) (2) ?_ ?_
 ·skip
  exact ⟨0, E, by omega, rfl, hE, S.sub _ rfl, M⟩
 intro m a wl
 clear hE
 rintro ⟨k, E, hk, rfl, hE, S, M⟩
 refine gq [[3,1,1],[2],[940,32]] ?_ ?_
 ·intro a h32 S
  refine gp [[6]] ?_; intro a S
  have hkl : k < 2 := by omega
  have hqc : (q.bs.length : Nat) ≤ Yb q.val := ((M.readAll 0 rfl (by grind [maxLen])) : Bs 0 _ _ q.val q.bs).cap.1
  have hRd : RdH w (q.ent :: E3) (jg q.val ((k : Int) * 64).toNat (((k : Int) + 1) * 64).toNat (Yb q.val) 1) (ZE k) := fun W M => by
   have h9 : Bs 0 W.heap.size W q.val q.bs := M.readAll 0 rfl (by grind [maxLen])
   have h8 := h9.cutB (i := ((k : Int) * 64).toNat) (j := (((k : Int) + 1) * 64).toNat) (mx := Yb q.val) o_ o_ o_ (Nat.le_refl _)
   have h7 : (q.bs.drop (k * 64)).take 64 = ZE k := by rw [hq]; exact Ja0 GO (WK o_)
   grind
  have h64 : (ZE k).length = 64 := GO _ (List.mem_of_getElem? (WK o_))
  refine gp [[1,1,1,1,1],[901],[0,1],[901],[901]] ?_; intro a S
  refine qY S (JcP (e := 5) (sz := 1) S k_ rfl ((M.readAll 0 rfl (by grind [maxLen]))) rfl rfl o_) ?_; intro a S
  refine qD S rfl (yT (A := _ :: E3) (k := (k : Int)) hE M hRd (Gr k).1 o_ o_ (by grind [Gr])) ?_
  rintro _ w11 ⟨rfl, E4, hE4, M2⟩; refine rv_ ?_; intro a S; have M := M2; clear M2
  simp only [List.cons_append] at M
  rw [Qa h64, Jcb hkl] at hE4
  refine gp [[0,1],[2],[941,45],[5,1],[901],[0,1],[2]] ?_; intro a S
  exact ⟨2 - (k + 1), by omega, k + 1, E4, by omega, rfl, hE4, S.sub _ rfl, M⟩
 intro a h32 S
 refine gp [[8]] ?_; intro a S
 obtain rfl : k = 2 := by omega
 refine gp [[1,1]] ?_; intro a S
 refine qD S rfl (Xk (A := _ :: E3) hE M (Gr 2).1 (fun z => by grind [Gr])) ?_
 rintro _ w12 ⟨rfl, E5, hE5, M2⟩; refine rv_ ?_; intro a S; have M := M2; clear M2
 have hD : (KG 2).flush = d18 := rfl
 rw [hD] at hE5
 refine gp [[0,1],[2],[941,48],[5,1]] ?_; intro a S
 refine qD S rfl (ER (A := _ :: E3) su18 hE5 M rfl (fun _ => Nat.zero_le _) JiS (JgJ fun z hz => Wu o_).gs (show d18.get 3 = zer64 from Wu o_)) ?_
 rintro _ w13 ⟨bs, rfl, hM⟩; refine rv_ ?_; intro a S
 obtain ⟨da, dc, lo, hi, cs, es, E6, hE6, hBk, M⟩ := hM
 refine gp [[0,1,1,1,1,1],[3]] ?_; intro a S
 replace M := M.perm (show (_ : List Ent).Perm ((shE bs b (shF su18 1) (.slice da 0 dc) :: Jd lo hi 57 6 (.slice da 0 dc) 0 cs :: (es ++ (q.ent :: E6))) ++ E3) from List.Perm.cons _ (List.Perm.cons _ (by
  rw [List.append_eq, List.append_assoc]
  exact List.Perm.append_left es (List.Perm.cons _ List.perm_append_comm))))
 refine gp [[1,1]] ?_; intro a S
 refine qD S rfl (E9 hE3 M d_ (JgJ fun z hz => Wd o_).gs ⟨by decide, by decide⟩ (fun k hk => by rw [show (26 : Int) + ((k : Nat) : Int) = ((26 + k : Nat) : Int) by omega, Wd o_, ZE, if_neg o_]; exact WE) (show r18.get ((3 : Nat) : Int) = zer64 from Wd o_)) ?_
 rintro _ w14 ⟨b2, rfl, M2⟩; refine rv_ ?_; intro a S
 have M := M2.sub (H' := shE bs b (shF su18 1) (.slice da 0 dc) :: Jd lo hi 57 6 (.slice da 0 dc) 0 cs :: (es ++ E6)) (.cons_cons _ (.cons_cons _ (((List.Sublist.refl es).append (.cons _ (.refl _))).trans (List.sublist_append_left _ _))))
 clear M2
 refine gq [[0,1,1,1,1,1],[5,1,1,1,1],[941,62],[0,1,1,1],[943,65]] ?_ ?_
 ·intro a h65 S
  refine gp [[0,0,0,0,0,0,0,1,1],[8,1],[3]] ?_; intro a S
  refine Jc (fun q a w' => q = 0 ∧ Jk 121 a [(1, .slice none 0 0), (12, pB bs), (13, .int .i64 0), (14, p_ b2), (16, .int .i64 0)] ∧ Mem w w' (shE bs b (shF su18 1) (.slice da 0 dc) :: Jd lo hi 57 6 (.slice da 0 dc) 0 cs :: (es ++ E6))) (0) ?_ ?_
  ·omega
  intro m a wl
  rintro ⟨rfl, S, M⟩
  refine gp [[3,1,1],[903,87],[0,1,1],[941,78],[0,0,0,1],[10,1,1,1,1,1],[3]] ?_; omega
 intro a h65 S
 refine qG [1] S ?_; intro a S
 refine qY S (J9 k_ S rfl) ?_
 refine gp [[0,1,1]] ?_; intro a S
 refine qY S (J9 k_ S rfl) ?_
 refine gp [[0,1,1,1],[8,1],[3]] ?_; intro a S
 refine Jc (fun q a w' => q = 0 ∧ Jk 121 a [(1, .slice none 0 0), (12, pB bs), (13, .int .i64 0), (14, p_ b2), (16, .int .i64 0)] ∧ Mem w w' (shE bs b (shF su18 1) (.slice da 0 dc) :: Jd lo hi 57 6 (.slice da 0 dc) 0 cs :: (es ++ E6))) (0) ?_ ?_
 ·skip
  exact ⟨rfl, S.sub _ rfl, M⟩
 intro m a wl
 rintro ⟨rfl, S, M⟩
 refine gp [[3,1,1],[903,87],[0,1,1],[941,78],[0,0,0,1],[10,1,1,1,1,1],[3]] ?_; intro a S
 refine JY S rfl rT_ rT_ rT_ ?_
 exact ⟨bs, b, b2, rfl, da, dc, lo, hi, cs, es, E6, hE6, hBk, M⟩
end Go.Proofs.YtocppoflhllelaaGreat
