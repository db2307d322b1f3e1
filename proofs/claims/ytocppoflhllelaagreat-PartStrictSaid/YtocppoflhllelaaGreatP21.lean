/-
  What PartStrict rests on, part 21.
-/
import Derived.Test.YtocppoflhllelaaGreatP15
import Derived.Test.YtocppoflhllelaaGreatP17
import Derived.Test.YtocppoflhllelaaGreatP19
namespace Go.Proofs.YtocppoflhllelaaGreat
open Go.RowKit Go.Sort
abbrev Eo (p : Int × Nat) : List Value := [.int .i64 p.1, .int .i64 (p.2 : Nat)]
def jr (l : List (Int × Nat)) : List Value := l.flatMap Eo
theorem Jb3 (l : List (Int × Nat)) (p : Int × Nat) : jr (l ++ [p]) = jr l ++ Eo p := by simp [jr]
theorem Xl : ∀ {l : List (Int × Nat)} {k : Nat} {p : Int × Nat}, l[k]? = some p → ((jr l).drop (k * 2)).take 2 = Eo p
 | [], k, p, h => by grind
 | q :: l, 0, p, h => by grind [jr]
 | q :: l, k + 1, p, h => by
   have e : jr (q :: l) = Eo q ++ jr l := by simp [jr]
   rw [e, show (k + 1) * 2 = (Eo q).length + k * 2 by grind, List.drop_append]
   simp only [List.length_cons, List.length_nil, Nat.add_sub_cancel_left]
   rw [List.drop_of_length_le (by simp), List.nil_append]
   exact Xl (by grind)
theorem Su.nums_take (s : Su) {k : Nat} (h : k < 8) : s.nums.take (5 + (k + 1)) = s.nums.take (5 + k) ++ [(s.mAt k, 1)] := by
 rcases lt8 h with rfl | rfl | rfl | rfl | rfl | rfl | rfl | rfl <;> rfl
theorem Su.nums_ok {s : Su} (h : s.may) : ∀ p ∈ s.nums, VR p.1 (p.2 : Nat) := by
 obtain ⟨hm, h1, h2, h3, h4, h5, h6, h7, h8, h9, h10⟩ := h
 have m : ∀ k, k < 8 → VR (s.mAt k) 1 := fun k hk => by have := hm k hk; grind [ye]
 have f6 : ∀ {n : Int}, 0 ≤ n → n ≤ 1099511627776 → VR n 6 := fun h0 h => ⟨by omega, by omega, h0, by
  grind⟩
 intro p hp
 simp only [Su.nums, List.mem_cons, List.not_mem_nil, or_false] at hp
 rcases hp with rfl | rfl | rfl | rfl | rfl | rfl | rfl | rfl | rfl | rfl | rfl | rfl | rfl
 ·grind
 ·grind
 ·grind [ye]
 ·grind [Wn]
 ·grind [Wn]
 ·exact m 0 o_
 ·exact m 1 o_
 ·exact m 2 o_
 ·exact m 3 o_
 ·exact m 4 o_
 ·exact m 5 o_
 ·exact m 6 o_
 ·exact m 7 o_
theorem Jb6 (s : Su) (w : World) : CT 346 #[.agg s.cellsL.toArray] w fun e w' => ∃ v', e = .returned v' ∧ Fresh w w' 408 2 v' s.nums.length (jr s.nums) := by
 have M := Mem.start w
 refine qI Tryz.func346 34 ?_; intro a S
 refine nxD (qW_ S M ?_); intro a w1 bB S M hB
 refine gp [[0,1],[4,1,1]] ?_; intro a S
 refine qB_ VD VW S ?_
 refine gp [[0,2,1]] ?_; intro a S
 refine qB_ VD VW S ?_
 refine gp [[0,3,1]] ?_; intro a S
 refine qB_ VD VW S ?_
 refine gp [[0,4,1]] ?_; intro a S
 refine qB_ VD VW S ?_
 refine gp [[0,5,1]] ?_; intro a S
 refine qB_ VD VW S ?_; intro a S
 refine JG (ps := [(0, .tmp 8), (1, .tmp 11), (2, .tmp 14), (3, .tmp 17), (4, .tmp 20)]) (e := 408) (sz := 2) (zl := Ji5) (cs := [_, _, _, _, _, _, _, _, _, _]) S M rfl rfl k_ rfl (rfl) ?_; intro a w2 b1 S M hB
 refine gp [[0,1],[5,6],[902,1,8],[0,1],[3]] ?_; intro a S
 refine Jc (fun m a w' => ∃ (k : Nat) (va : Option Addr) (vc lo hi : Nat), k ≤ 8 ∧ m = 8 - k ∧ Jk 34 a [(3, .slice va (5 + k) vc), (23, .agg #[.int .i64 s.m0, .int .i64 s.m1, .int .i64 s.m2, .int .i64 s.m3, .int .i64 s.m4, .int .i64 s.m5, .int .i64 s.m6, .int .i64 s.m7]), (24, .int .i64 (k : Int))] ∧ Mem w w' [Jd lo hi 408 2 (.slice va (5 + k) vc) (5 + k) (jr (s.nums.take (5 + k)))]) (8) ?_ ?_
 ·skip
  replace M := M.toRow (sz := 2) (m := 5) (cap := 5) (xs := jr (s.nums.take 5)) 0 rfl rfl d_ (by grind [maxLen]) rfl rfl
  exact ⟨0, _, _, _, _, by omega, rfl, S.sub _ rfl, M.sub (.cons_cons _ (List.nil_sublist _))⟩
 intro m a wl
 rintro ⟨k, va, vc, lo, hi, hk, rfl, S, M⟩
 refine gq [[2,1],[3],[943,25]] ?_ ?_
 ·intro a h25 S
  refine gp [[8,1,1],[3],[930]] ?_
  obtain rfl : k = 8 := by omega
  exact ⟨_, rfl, M.fresh 0 rfl⟩
 intro a h25 S
 refine gp [[7]] ?_; intro a S
 refine qY S (vj (m := 8) (sz := 1) S k_ (fun e he => by cases he.symm.trans (show _ = some (.array 8 3) by kernel_rfl); kernel_rfl) rfl rfl o_ (show _ = some (Value.int .i64 (s.mAt k)) from (by rw [Int.toNat_natCast, Nat.mul_one]; exact s.mAt_lst o_))) ?_
 refine gp [[0,1],[3,1,1]] ?_; intro a S
 refine qB_ VD VW S ?_; intro a S
 refine JG (ps := [(0, .tmp 29)]) (e := 408) (sz := 2) (zl := VW) (cs := [_, _]) S M rfl rfl k_ rfl (rfl) ?_; intro a w3 bN S M hB
 refine qP_ (e := 408) (sz := 2) (by_ := 16) (zc := VW) S M 1 rfl rfl rfl (M.sliceAt 0 rfl (M.cellsAt (k := 2) 0 rfl rfl) rfl (Nat.le_refl _) (by grind [maxLen])) ?_; intro a w4 vA loA hiA S M
 obtain ⟨aA, cA, rfl, -, -⟩ := (M.readAll 0 rfl (by grind [maxLen])).form
 refine qY S (JP S rfl) ?_
 refine gp [[4],[901],[0,1],[2]] ?_; intro a S
 replace M := M.drp 1
 refine ⟨8 - (k + 1), by omega, k + 1, aA, cA, loA, hiA, by omega, rfl, S.sub _ rfl, ?_⟩
 rw [s.nums_take o_, Jb3]
 exact M
theorem JfG (n : Int) (k : Nat) (w : World) (hf : VR n (k : Int)) : CT 347 #[.agg #[.int .i64 n, .int .i64 (k : Int)]] w fun e w' => ∃ v', e = .returned v' ∧ Fresh w w' 5 1 v' (leB n k).length (Jh (leB n k)) := by
 have M := Mem.start w
 have hE : zZ n k = 0 := by grind [zZ]
 refine qI Tryz.func347 14 ?_; intro a S
 refine nxD (qW_ S M ?_); intro a w1 bB S M hB
 refine gp [[0,1],[4,1,1,2,1]] ?_; intro a S
 refine qD S rfl (We (.slice none 0 0) [] n (k : Int) _ (Rd.nil 0 _ _ 1) (by simp)) ?_
 rintro _ w2 ⟨v1, rfl, hK, h1, -⟩; refine rv_ ?_; intro a S
 rw [hE] at S
 have hF := h1 hf
 rw [List.nil_append, Int.toNat_natCast] at hF
 obtain ⟨lo, hi, -, M⟩ := M.pushFresh hF
 refine gp [[0,1,1,1,1,1],[4,1,1],[3],[930]] ?_
 exact ⟨_, rfl, M.fresh 0 rfl⟩
theorem Dw (va : Option Addr) (vc : Nat) (l : List (Int × Nat)) (w : World) (hv : Rd 0 w.heap.size w 2 (.slice va l.length vc) l.length (jr l)) (hl : l.length ≤ 100) (hok : ∀ p ∈ l, VR p.1 (p.2 : Nat)) :
 CT 345 #[.slice va l.length vc, .func (.func 347) #[] #[]] w fun e w' => ∃ v', e = .returned v' ∧ Fresh w w' 5 1 v' (VQ (Vy l)).length (Jh (VQ (Vy l))) := by
 have M := Mem.start w
 have hb : ∀ i, (Vy (l.take i)).length ≤ 600 := fun i => by
  rw [y6]
  have key : ∀ (q : List (Int × Nat)), (∀ p ∈ q, VR p.1 (p.2 : Nat)) → (q.map (·.2)).sum ≤ q.length * 6 := fun q hq => by
   induction q with
   | nil => simp
   | cons a q ih =>
     have h1 := ih (fun p hp => hq p (List.mem_cons_of_mem _ hp))
     have h2 := (hq a (List.mem_cons_self ..)).2.1
     grind
  grind
 refine qI Tryz.func345 22 ?_
 refine gp [[2,1],[4,1],[5,1],[903,408],[0,1],[3]] ?_; intro a S
 refine Jc (fun m a w' => ∃ (i : Nat) (oa : Option Addr) (oc lo hi : Nat), i ≤ l.length ∧ m = l.length - i ∧ Jk 22 a [(1, .func (.func 347) #[] #[]), (5, .slice oa (Vy (l.take i)).length oc), (8, .slice va l.length vc), (9, .int .i64 (l.length : Int)), (10, .int .i64 (i : Int))] ∧ Mem w w' [Jd lo hi 5 1 (.slice oa (Vy (l.take i)).length oc) (Vy (l.take i)).length (Jh (Vy (l.take i)))]) (l.length) ?_ ?_
 ·skip
  obtain ⟨lo, hi, M1⟩ := M.nilRow 5 1
  exact ⟨0, none, 0, lo, hi, Nat.zero_le _, rfl, S.sub _ rfl, M1⟩
 intro m a wl
 rintro ⟨i, oa, oc, lo, hi, hi', rfl, S, M⟩
 refine gq [[2,1],[3],[943,11]] ?_ ?_
 ·intro a h11 S
  refine gp [[8,1]] ?_; intro a S
  refine qD S rfl (K4 _ (Vy (l.take i)) _ (M.readAll 0 rfl (by grind [maxLen])) (by grind)) ?_
  rintro _ w5 ⟨v1, rfl, hF⟩; refine rv_ ?_; intro a S
  obtain ⟨lo3, hi3, -, M1⟩ := M.pushFresh hF; clear M; have M := M1; clear M1
  refine gp [[0,1],[3],[930]] ?_
  obtain rfl : i = l.length := by omega
  rw [List.take_length] at M
  exact ⟨_, rfl, M.fresh 0 rfl⟩
 intro a h11 S
 refine gp [[6]] ?_; intro a S
 obtain ⟨p, hp⟩ : ∃ p, l[i]? = some p := ⟨_, List.getElem?_eq_getElem o_⟩
 have hfp := hok p (List.mem_of_getElem? hp)
 refine gp [[1],[907,408,2]] ?_; intro a S
 refine qY S (Ja S k_ rfl rfl ((M.arg hv).at_.row (i := i) (Xl hp) rfl)) ?_; intro a S
 refine qN S M Zy ?_; intro a w1 bX S M hB
 refine go [[900,0],[2]] ?_; intro a w2 S M
 have hbi := hb i
 have hlp : (leB p.1 p.2).length ≤ 6 := by rw [Jl]; have := hfp.2.1; omega
 have hnx : Vy (l.take (i + 1)) = Vy (l.take i) ++ leB p.1 p.2 := by grind [List.take_add_one, Vy]
 refine gp [[1,1,1],[902,0,2]] ?_; intro a S
 refine JR (xs := [.tmp 16]) (fi := []) (ca := []) S (Ji Tryz.func347 d_ rfl) rfl rfl (rfl) rfl (JfG p.1 p.2 _ hfp) ?_
 rintro _ w3 ⟨v1, rfl, hF⟩; refine rv_ ?_; intro a S
 obtain ⟨lo3, hi3, -, M1⟩ := M.pushFresh hF; clear M; have M := M1; clear M1
 refine JI (e := 5) (sz := 1) (by_ := 1) (zc := Ym) S M 2 rfl rfl k_ rfl d_ rfl rfl rfl (M.readAll 0 rfl (by grind [maxLen])) (JA _) o_ (by grind [maxLen]) ?_; intro a w4 vA loA hiA S M
 obtain ⟨aA, cA, rfl, -, -⟩ := (M.readAll 0 rfl (by grind [maxLen])).form
 refine qY S (JP S rfl) ?_
 refine gp [[4],[901],[0,1],[2]] ?_; intro a S
 replace M := (M.drp 1).drp 1
 refine ⟨l.length - (i + 1), by omega, i + 1, aA, cA, loA, hiA, by omega, rfl, ?_, ?_⟩
 ·rw [hnx, List.length_append]; exact S.sub _ rfl
 grind [Vv]
theorem JhK (s : Su) : VF (GQ s) = VN s := by unfold VF VN; rw [zS]
theorem DT {wc w : World} {A E : List Ent} {b : Nat} {S0 : DS} (s : Su) (hE : DkE b S0 E) (M : Mem wc w (A ++ E)) (hup : S0.down = false) (hm : s.may) (hw : ∀ k, (S0.cache k).length ≤ 1000000) :
 CT 323 #[p_ b, .agg s.cellsL.toArray] w fun e w' => e = .returned (.int .i64 0) ∧ ∃ E', DkE b (S0.write (s.gen % 2) (VN s)) E' ∧ Mem wc w' (A ++ E') := by
 have hl := zS s
 have hn : s.nums.length = 13 := rfl
 have hg := hm.2.1
 refine qI Tryz.func323 20 ?_; intro a S
 refine nxD (qW_ S M ?_); intro a w1 bB S M hB
 refine gp [[0,1],[5,1]] ?_; intro a S
 refine qY S (J9 k_ S rfl) ?_
 refine gp [[8],[902,0,13]] ?_; intro a S
 refine qK S rfl (Ea s _) M ?_; intro a w2 S hK M
 refine qG [1] S ?_; intro a S
 refine nxC (Js (t := 10) S rfl ?_ ?_)
 ·intro h10 S
  simp_all
 intro h10 S
 refine gp [[5],[902,0,13]] ?_; intro a S
 refine qD S rfl (Jb6 s _) ?_
 rintro _ w3 ⟨v1, rfl, hF⟩; refine rv_ ?_; intro a S
 obtain ⟨lo, hi, -, M1⟩ := M.pushFresh hF; clear M; have M := M1; clear M1
 obtain ⟨va, vc, rfl, -, -⟩ := (M.readAll 0 rfl (by grind [maxLen])).form
 refine qD S rfl (Dw va vc s.nums _ (M.readAll 0 rfl (by grind [maxLen])) o_ (Su.nums_ok hm)) ?_
 rintro _ w4 ⟨v1, rfl, hF2⟩; refine rv_ ?_; intro a S
 obtain ⟨lo2, hi2, -, M1⟩ := M.pushFresh hF2; clear M; have M := M1; clear M1
 obtain ⟨bs, hbs⟩ : ∃ bs, VQ (Vy s.nums) = bs := ⟨_, rfl⟩
 have hb31 : bs.length = 31 := by rw [← hbs]; exact hl
 rw [hbs] at M
 refine gp [[0,1],[4,1,1,3]] ?_; intro a S
 (refine qY S (yw S rfl rfl o_) ?_); intro a S
 refine qG [1] S ?_; intro a S
 refine qD S rfl (yT (A := _ :: _ :: _ :: A) (k := s.gen % 2) (bs := bs) hE M (fun W M => M.readAll 0 rfl (by grind [maxLen])) hup o_ o_ (hw _)) ?_
 rintro _ w5 ⟨rfl, E', hE', M2⟩; refine rv_ ?_; intro a S; have M := M2; clear M2
 rw [← hbs, show VQ (Vy s.nums) = GQ s from rfl, JhK] at hE'
 refine gp [[0,1],[3],[930]] ?_
 exact ⟨rfl, E', hE', ((M.drop 0).drop 0).drop 0⟩
def nf (x : Lk) (l : List Lk) : List Nm := (l.filter fun y => jh y x).map Lk.name
theorem JaP {x : Lk} {l : List Lk} {k : Nat} {y : Lk} (hy : l[k]? = some y) : nf x (l.take (k + 1)) = nf x (l.take k) ++ if jh y x = true then [y.name] else [] := by
 grind [nf, List.take_add_one]
theorem JgP {x : Lk} {l : List Lk} {k : Nat} {y : Lk} (hy : l[k]? = some y) (hc : jh y x = true) : ∃ t, nf x l = nf x (l.take k) ++ y.name :: t := by
 obtain ⟨hlt, he⟩ := List.getElem?_eq_some_iff.1 hy
 refine ⟨nf x (l.drop (k + 1)), ?_⟩
 grind [List.take_append_drop, List.drop_eq_getElem_cons, nf]
def agR (h wt : List Lk) (x : Lk) (up : Bool) : List Nm := nf x h ++ if up = true then [] else nf x wt
abbrev Jb9 (n : Nm) : List Value := [.agg n.cells]
structure AgC (bT bL bU : Nat) (ha wa : Option Addr) (hc wc : Nat) (h wt : List Lk) (x : Lk) (up : Bool) (W : World) : Prop where
 tab : Blk W bT #[.slice ha h.length hc, .slice wa wt.length wc] 30
 lk : Blk W bL x.cellsL.toArray 110
 upg : Blk W bU #[.bool up] 4
 held : LsL 0 W.heap.size W (.slice ha h.length hc) h
 wait : LsL 0 W.heap.size W (.slice wa wt.length wc) wt
theorem AgC.mono {bT bL bU : Nat} {ha wa : Option Addr} {hc wc : Nat} {h wt : List Lk} {x : Lk} {up : Bool} {W W' : World} (A : AgC bT bL bU ha wa hc wc h wt x up W) (hb : Below W.heap.size W W') : AgC bT bL bU ha wa hc wc h wt x up W' :=
 ⟨(hb.block bT A.tab.lt).trans A.tab, (hb.block bL A.lk.lt).trans A.lk, (hb.block bU A.upg.lt).trans A.upg, A.held.later hb, A.wait.later hb⟩
set_option maxHeartbeats 1000000 in
theorem EL (bT bL bU : Nat) (ha wa : Option Addr) (hc wc : Nat) (h wt : List Lk) (x : Lk) (up : Bool) : Gen Tryz.prog 328 [p_ bT, p_ bL, p_ bU] Jb9 (agR h wt x up) (AgC bT bL bU ha wa hc wc h wt x up) := by
 intro ll I w hC hg hY h0
 have A := hC _ _ h0
 have hl := A.held.2.1
 have hl2 := A.wait.2.1
 unfold maxLen at hl hl2
 have M := Mem.start w
 refine vh Tryz.func328 rfl 46 rfl rfl ?_; intro a S
 refine wpIn_seq ?_
 refine wpIn_seq ?_
 refine Jq k_ (by rintro _ _ ⟨⟨_, h⟩, -⟩; cases h) ?_
 refine qG [1] S ?_; intro a S
 refine qY S (Jf S k_ rfl (A.tab.cells 0)) ?_
 refine gp [[903,110],[0,1],[2]] ?_; intro a S
 refine wpIn_block ?_
 refine jW (fun m a w' => ∃ (k : Nat), k ≤ h.length ∧ m = h.length - k ∧ Jk 46 a [(0, .func (.yield ll) #[] #[]), (1, p_ bT), (2, p_ bL), (3, p_ bU), (10, .slice ha h.length hc), (11, .int .i64 (h.length : Int)), (12, .int .i64 (k : Int))] ∧ I (nf x (h.take k)) w') (h.length) ?_ ?_
 ·skip
  exact ⟨0, Nat.zero_le _, rfl, S.sub _ rfl, h0⟩
 intro m a wl
 rintro ⟨k, hk, rfl, S, hI⟩
 have M := Mem.start wl
 have A := hC _ _ hI
 refine wpIn_seq ?_
 refine Jq k_ (by rintro _ _ ⟨⟨_, h⟩, -⟩; cases h) ?_
 refine qG [1] S ?_; intro a S
 refine nxC (wpIn_seq ?_)
 refine qi 13 S ?_ ?_
 ·intro h13 S
  refine Ya S rfl ?_
  refine wpIn_skip ?_
  refine Jn (wpIn_seq ?_)
  refine wpIn_block ?_
  refine wpIn_seq ?_
  obtain ⟨y, hy⟩ : ∃ y, h[k]? = some y := ⟨_, List.getElem?_eq_getElem o_⟩
  have hst := JaP (x := x) hy
  refine Jq k_ (by rintro _ _ ⟨⟨_, h⟩, -⟩; cases h) ?_
  refine qY S (qX 110 5 S ((M.arg A.held))) ?_; intro a S
  replace S := S.n_
  refine qY S (Ja S k_ rfl rfl ((M.arg A.held).at_.row (i := k) (J6 hy) rfl)) ?_; intro a S
  refine qN S M yg ?_; intro a w1 bY S M hB
  refine go [[900,0],[2]] ?_; intro a w2 S M
  refine wpIn_seq ?_
  refine zP 7 k_ (by rintro _ _ ⟨⟨_, h⟩, -⟩; cases h) ?_; simp only [List.take_succ_cons, List.take_zero, List.drop_succ_cons, List.drop_zero]
  refine gp [[902,0,5]] ?_; intro a S
  refine qY S (Ja S k_ rfl rfl (show CellsAt _ bL 0 x.cellsL from Blk.cellsAt (o := 0) (k := 5) (A.mono M.below).lk rfl)) ?_; intro a S
  refine qK S rfl (Qr y x _) M ?_; intro a w3 S hK M
  refine gq [[0,1],[943,19]] ?_ ?_
  ·intro a h19 S
   refine qG [0, 0, 0] S ?_; intro a S
   refine wpList_nil ?_; refine Jn ?_
   refine Yq k_ (by rintro _ _ ⟨⟨_, h⟩, -⟩; cases h) ?_
   refine jY S rfl rfl rfl ?_
   refine gp [[0,0,1],[2]] ?_; intro a S
   refine Vc S rfl ?_
   refine wpIn_skip ?_
   refine Jy (Jn (Jq k_ (by rintro _ _ ⟨⟨_, h⟩, -⟩; cases h) ?_))
   refine gp [[901],[0,1],[2]] ?_; intro a S
   (rw [if_neg (by rw [h19]; decide), List.append_nil] at hst; exact ⟨h.length - (k + 1), by omega, k + 1, by omega, rfl, S.sub _ rfl, by rw [hst]; exact hg _ _ _ hI M.below⟩)
  intro a h19 S
  refine gp [[0,1,1],[902,0,3]] ?_; intro a S
  obtain ⟨t, ht⟩ := JgP hy h19
  refine wpList_nil ?_; refine Jn ?_
  refine vM (xs := [.tmp 22]) S rfl k_ rfl rfl (hY (nf x (h.take k)) y.name (t ++ if up = true then [] else nf x wt) _ (by unfold agR; rw [ht]; simp) (hg _ _ _ hI M.below)) ?_
  rintro _ w4 ⟨rfl, hI2⟩; refine rv_ ?_; intro a S; have M := Mem.start w4
  refine Yq k_ (by rintro _ _ ⟨⟨_, h⟩, -⟩; cases h) ?_
  refine gp [[0,1,1],[2],[941,25]] ?_; intro a S
  refine Vc S rfl ?_
  refine wpIn_skip ?_
  refine Jy (Jn (Jq k_ (by rintro _ _ ⟨⟨_, h⟩, -⟩; cases h) ?_))
  refine gp [[901],[0,1],[2]] ?_; intro a S
  (rw [if_pos h19] at hst; exact ⟨h.length - (k + 1), by omega, k + 1, by omega, rfl, S.sub _ rfl, by rw [hst]; exact hg _ _ _ hI2 M.below⟩)
 intro h13 S
 refine Vc S rfl ?_
 refine wpIn_exit ?_
 refine gp [[4]] ?_; intro a S
 refine wpIn_seq ?_
 refine wpIn_seq ?_
 obtain rfl : k = h.length := by omega
 rw [List.take_length] at hI
 refine Jq k_ (by rintro _ _ ⟨⟨_, h⟩, -⟩; cases h) ?_
 refine qY S (Jf S k_ rfl (A.upg.cells 0)) ?_; intro a S
 refine nxC (Js (t := 27) S rfl ?_ ?_)
 ·intro h27 S
  refine Ya S rfl ?_
  refine wpIn_ret ?_
  refine Yu (JV S rfl ?_)
  (subst h27; exact ⟨⟨_, rfl⟩, by unfold agR; rw [if_pos rfl, List.append_nil]; exact hI⟩)
 intro h27 S
 refine Vc S rfl ?_
 refine wpIn_skip ?_
 refine Jn (wpIn_seq ?_)
 refine Jq k_ (by rintro _ _ ⟨⟨_, h⟩, -⟩; cases h) ?_
 refine qG [2] S ?_; intro a S
 refine qY S (Jf S k_ rfl (A.tab.cells 1)) ?_
 refine gp [[903,110],[0,1],[2]] ?_; intro a S
 refine wpIn_block ?_
 refine jW (fun m a w' => ∃ (k : Nat), k ≤ wt.length ∧ m = wt.length - k ∧ Jk 46 a [(0, .func (.yield ll) #[] #[]), (2, p_ bL), (29, .slice wa wt.length wc), (30, .int .i64 (wt.length : Int)), (31, .int .i64 (k : Int))] ∧ I (nf x h ++ nf x (wt.take k)) w') (wt.length) ?_ ?_
 ·skip
  exact ⟨0, Nat.zero_le _, rfl, S.sub _ rfl, by rw [show nf x (wt.take 0) = [] from rfl, List.append_nil]; exact hg _ _ _ hI M.below⟩
 intro m a wl
 rintro ⟨k2, hk2, rfl, S, hI⟩
 have M := Mem.start wl
 have A := hC _ _ hI
 refine wpIn_seq ?_
 refine Jq k_ (by rintro _ _ ⟨⟨_, h⟩, -⟩; cases h) ?_
 refine qG [1] S ?_; intro a S
 refine nxC (wpIn_seq ?_)
 refine qf 32 S ?_ ?_
 ·intro h32 S
  refine Vc S rfl ?_
  refine wpIn_exit ?_
  refine gp [[3]] ?_; intro a S
  refine JD S rfl ?_
  (obtain rfl : k2 = wt.length := by omega
   rw [List.take_length] at hI
   subst h27; exact ⟨⟨_, rfl⟩, by unfold agR; rw [if_neg d_]; exact hI⟩)
 intro h32 S
 refine Ya S rfl ?_
 refine wpIn_skip ?_
 refine Jn (wpIn_seq ?_)
 refine wpIn_block ?_
 refine wpIn_seq ?_
 obtain ⟨y, hy⟩ : ∃ y, wt[k2]? = some y := ⟨_, List.getElem?_eq_getElem o_⟩
 have hst := JaP (x := x) hy
 refine Jq k_ (by rintro _ _ ⟨⟨_, h⟩, -⟩; cases h) ?_
 refine qY S (qX 110 5 S ((M.arg A.wait))) ?_; intro a S
 replace S := S.n_
 refine qY S (Ja S k_ rfl rfl ((M.arg A.wait).at_.row (i := k2) (J6 hy) rfl)) ?_; intro a S
 refine qN S M yg ?_; intro a w5 bY S M hB
 refine go [[900,0],[2]] ?_; intro a w6 S M
 refine wpIn_seq ?_
 refine zP 7 k_ (by rintro _ _ ⟨⟨_, h⟩, -⟩; cases h) ?_; simp only [List.take_succ_cons, List.take_zero, List.drop_succ_cons, List.drop_zero]
 refine gp [[902,0,5]] ?_; intro a S
 refine qY S (Ja S k_ rfl rfl (show CellsAt _ bL 0 x.cellsL from Blk.cellsAt (o := 0) (k := 5) (A.mono M.below).lk rfl)) ?_; intro a S
 refine qK S rfl (Qr y x _) M ?_; intro a w7 S hK M
 refine gq [[0,1],[943,38]] ?_ ?_
 ·intro a h38 S
  refine qG [0, 0, 0] S ?_; intro a S
  refine wpList_nil ?_; refine Jn ?_
  refine Yq k_ (by rintro _ _ ⟨⟨_, h⟩, -⟩; cases h) ?_
  refine jY S rfl rfl rfl ?_
  refine gp [[0,0,1],[2]] ?_; intro a S
  refine Vc S rfl ?_
  refine wpIn_skip ?_
  refine Jy (Jn (Jq k_ (by rintro _ _ ⟨⟨_, h⟩, -⟩; cases h) ?_))
  refine gp [[901],[0,1],[2]] ?_; intro a S
  (rw [if_neg (by rw [h38]; decide), List.append_nil] at hst; exact ⟨wt.length - (k2 + 1), by omega, k2 + 1, by omega, rfl, S.sub _ rfl, by rw [hst]; exact hg _ _ _ hI M.below⟩)
 intro a h38 S
 refine gp [[0,1,1],[902,0,3]] ?_; intro a S
 obtain ⟨t, ht⟩ := JgP hy h38
 refine wpList_nil ?_; refine Jn ?_
 refine vM (xs := [.tmp 41]) S rfl k_ rfl rfl (hY (nf x h ++ nf x (wt.take k2)) y.name t _ (by unfold agR; rw [h27, if_neg d_, ht]; simp) (hg _ _ _ hI M.below)) ?_
 rintro _ w8 ⟨rfl, hI2⟩; refine rv_ ?_; intro a S; have M := Mem.start w8
 refine Yq k_ (by rintro _ _ ⟨⟨_, h⟩, -⟩; cases h) ?_
 refine gp [[0,1,1],[2],[941,44]] ?_; intro a S
 refine Vc S rfl ?_
 refine wpIn_skip ?_
 refine Jy (Jn (Jq k_ (by rintro _ _ ⟨⟨_, h⟩, -⟩; cases h) ?_))
 refine gp [[901],[0,1],[2]] ?_; intro a S
 (rw [if_pos h38] at hst; exact ⟨wt.length - (k2 + 1), by omega, k2 + 1, by omega, rfl, S.sub _ rfl, by rw [hst, ← List.append_assoc]; exact hg _ _ _ hI2 M.below⟩)
theorem JaB (ha wa : Option Addr) (hc wc : Nat) (h wt : List Lk) (x : Lk) (w : World) (hv : LsL 0 w.heap.size w (.slice ha h.length hc) h) :
 CT 281 #[zh ha wa h.length hc wt.length wc, .agg x.cellsL.toArray] w fun e w' => ∃ bT bL bU, e = .returned (.func (.func 328) #[] #[p_ bT, p_ bL, p_ bU]) ∧
  Mem w w' [.blk bU #[.bool (J1 h x.pl != 0)] 4, .blk bL x.cellsL.toArray 110, .blk bT #[.slice ha h.length hc, .slice wa wt.length wc] 30] := by
 have M := Mem.start w
 refine qI Tryz.func281 14 ?_; intro a S
 refine nxD (qW_ S M ?_); intro a w1 bT S M hB
 refine qW_ S M ?_; intro a w2 bL S M hB
 refine gp [[0,1],[4],[902,1,2],[0,1],[902,0,3],[0,4,1]] ?_; intro a S
 refine qK S rfl (Ka ha wa hc _ wc h x.name x.block _ (M.argW hv)) M ?_; intro a w3 S hK M
 refine qG [1] S ?_; intro a S
 refine qN S M #[.bool false] ?_; intro a w4 bU S M hB
 refine go [[900,0],[4]] ?_; intro a w5 S M
 refine qY S (Jx (fs := []) (cs := [.tmp 2, .tmp 3, .tmp 5]) S rfl rfl) ?_
 refine gp [[0,1],[3],[930]] ?_
 exact ⟨bT, bL, bU, rfl, M⟩
set_option maxHeartbeats 1000000 in
theorem XI {gf : FuncId} {lb : List Value} {xs : List Nm} {C : World → Prop} (hE : VL Tryz.prog gf) (G : Gen Tryz.prog gf lb Jb9 xs C) (w : World) (hC : ∀ W, Below w.heap.size w W → C W) (hl : xs.length ≤ 1000000) :
 CT 327 #[.slice none 0 0, .func (.func gf) #[] lb.toArray] w fun e w' => ∃ va vc lo hi, e = .returned (.slice va xs.length vc) ∧ Mem w w' [Jd lo hi 43 3 (.slice va xs.length vc) xs.length (Ye xs)] := by
 have M := Mem.start w
 refine vg Tryz.func327 rfl 13 rfl rfl ?_; intro a S
 refine nxD (VA S M rfl rfl rfl #[_] rfl ?_); intro a w1 bB S M hB
 refine gp [[0,1],[5,1],[3]] ?_; intro a S
 replace M := M.rowNil 43 3
 refine Dt (encs := Jb9) (xs := xs) S M rfl (hE) (G) (fun _ => rfl) k_ (fun pre Hs => ∃ va vc lo hi, Hs = [Jd lo hi 43 3 (.slice va pre.length vc) pre.length (Ye pre), .blk bB #[.slice va pre.length vc] 366]) (⟨none, 0, _, _, rfl⟩) (fun pre Hs W _ M => hC W M.below) ?_ ?_
 ·intro lY pre x tX Hs wr BK a hx hI M S
  simp only [ZF] at S
  obtain ⟨va, vc, lo, hi, rfl⟩ := hI
  have hpl : pre.length < xs.length := by grind
  refine Jq k_ (fun _ _ h => h) ?_
  refine qN S M Kg ?_; intro a w2 bQ S M hB
  refine go [[900,0],[2]] ?_; intro a w3 S M
  replace M := M.frn 1
  refine ⟨_, M, ?_⟩; intro wb BK M
  refine wpIn_block ?_
  refine Jq k_ (fun _ _ h => h) ?_
  refine gp [[0,4],[902,1,3]] ?_; intro a S
  refine JG (ps := [(0, .tmp 9)]) (e := 43) (sz := 3) (zl := ZA) (cs := [_, _, _]) S M rfl rfl k_ rfl (rfl) ?_; intro a w4 bZ S M hB
  refine JI (e := 43) (sz := 3) (by_ := 24) (zc := ZA) S M 3 rfl rfl k_ rfl d_ rfl rfl rfl (show Rd _ _ _ 3 _ 1 x.cells.toList from M.sliceAt 0 rfl (M.cellsAt (k := 3) 0 rfl rfl) rfl (Nat.le_refl _) (by grind [maxLen])) (rfl) o_ (by grind [maxLen]) ?_; intro a w5 vA loA hiA S M
  obtain ⟨aA, cA, rfl, -, -⟩ := (M.readAll 0 rfl (by grind [maxLen])).form
  refine go [[900,4],[2]] ?_; intro a w6 S M
  replace M := M.frn 2
  skip
  replace M := (M.drp 2).drp 2
  replace M := M.od [2, 2, 2]
  have e1 : (pre ++ [x]).length = pre.length + 1 := by simp
  have e2 : Ye (pre ++ [x]) = Ye pre ++ x.cells.toList := by simp [Ye]
  exact ⟨_, M, aA, cA, loA, hiA, by grind⟩
 intro D1 wd Hs a hI M S
 obtain ⟨va, vc, lo, hi, rfl⟩ := hI
 refine gp [[4,3,1],[3]] ?_; intro a S
 refine yR S M 0 rfl ?_; intro a wM S M
 replace M := M.e_
 refine jQ ?_
 refine gp [[930]] ?_
 replace M := M.drp 1
 grind
theorem Jat {gf : FuncId} {lb : List Value} {xs : List Nm} {C : World → Prop} (hE : VL Tryz.prog gf) (G : Gen Tryz.prog gf lb Jb9 xs C) (w : World) (hC : ∀ W, Below w.heap.size w W → C W) (hl : xs.length ≤ 1000000) :
 CT 280 #[.func (.func gf) #[] lb.toArray] w fun e w' => ∃ va vc lo hi, e = .returned (.slice va xs.length vc) ∧ Mem w w' [Jd lo hi 43 3 (.slice va xs.length vc) xs.length (Ye xs)] := by
 have M := Mem.start w
 refine qI Tryz.func280 5 ?_
 refine gp [[2,1],[4,1]] ?_; intro a S
 refine qD S rfl (XI hE G _ (fun W hW => hC W (M.below.trans (hW.mono M.below.size))) hl) ?_
 rintro _ w1 ⟨va, vc, lo, hi, rfl, M1⟩; replace M := M.join M1; clear M1
 refine gp [[0,1],[3],[930]] ?_
 grind
end Go.Proofs.YtocppoflhllelaaGreat
