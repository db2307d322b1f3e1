/-
  What SessionOnce rests on, part 8.
-/
import Derived.Test.YtniijiipkfhjgaaP7
namespace Go.Proofs.Ytniijiipkfhjgaa
open Go.RowKit Go.Sort
set_option maxHeartbeats 8000000 in
theorem once_any (of0 : Of8) (va : Option Addr) (vc : Nat) (cs : List Value) (l : List Act_) (w : World) (hv : RowA cs 0 w.heap.size w (.slice va l.length vc) l) :
    Calls Try.prog 4 #[.agg of0.cellsL.toArray, .slice va l.length vc] w fun e w' => e = .returned (.bool true) ∧ Below w.heap.size w w' := by
  have M := Mem.start w
  have hvl := hv.1.2.1
  unfold maxLen at hvl
  refine calls_enter Try.func4 rfl 266 rfl rfl ?_; intro a S
  refine nxD ?_
  refine st_box S M rfl rfl rfl #[_, _, _, _, _, _, _, _] rfl ?_; clear S M a; intro a w1 bF S M hB
  refine st_go [1] S rfl (by kernel_rfl) ?_; clear S a; intro a S
  refine nxC ?_
  refine wp_seq ?_
  refine nxD ?_
  refine st_go [1] S rfl (by kernel_rfl) ?_; clear S a; intro a S
  refine st_call (xs := [(Operand.tmp 24)]) S (enters_of Try.func5 (by decide) rfl) rfl rfl rfl (great_any va vc cs l _ (M.actsW hv)) ?_
  rintro _ w2 ⟨bg, rfl, hK, hgr⟩; refine ⟨_, rfl, ?_⟩; clear S a; intro a S; replace M := M.grow hK
  refine nxC ?_
  refine st_if (t := 25) S rfl ?_ ?_
  · clear S; intro h25 S
    refine st_condT S rfl ?_
    refine nxD ?_
    refine st_call (xs := []) S (enters_of Try.func6 (by decide) rfl) rfl rfl rfl (wakes24_any _) ?_
    rintro _ w3 ⟨rfl, hK⟩; refine ⟨_, rfl, ?_⟩; clear S a; intro a S; replace M := M.grow hK
    refine st_go [1] S rfl (by kernel_rfl) ?_; clear S a; intro a S
    refine nxC ?_
    refine wp_ret ?_
    refine then_ret ?_
    refine end_one S rfl (res_tmp rfl) ?_
    first
      | exact ⟨rfl, M.below⟩
      | (exfalso; omega)
      | (exfalso; rcases hcase with ⟨h1, h2, h3⟩ | ⟨h1, h2⟩ <;> simp_all)
  clear S; intro h25 S
  refine st_condF S rfl ?_
  refine wp_skip ?_
  refine nxE ?_
  refine st_call (xs := [(Operand.const (Value.int IntKind.i64 1))]) S (enters_of Try.func7 (by decide) rfl) rfl rfl rfl (new_any 1 _) ?_
  rintro _ w4 ⟨la, k0, er, rfl, hK, hnew⟩
  obtain ⟨rfl, rfl, rfl⟩ := hnew (by omega)
  refine ⟨_, rfl, ?_⟩; clear S a; intro a S; replace M := M.grow hK
  refine st_go [1, 1, 1] S rfl (by kernel_rfl) ?_; clear S a; intro a S
  refine st_alloc S M rfl rfl #[.slice none 0 0, .int .i64 0, .int .i64 0, .slice none 0 0] (by kernel_rfl) ?_; clear S M a; intro a w5 bS S M hB
  refine st_store (sz := 4) (us := [_, _, _, _]) S M 0 rfl (by kernel_rfl) rfl rfl rfl rfl rfl rfl (by first | decide | (simp; done) | (simp; omega)) ?_; clear M; intro w6 M
  simp only [putL, List.set_cons_zero, List.set_cons_succ, Nat.reduceAdd] at M
  refine st_go [1] S rfl (by kernel_rfl) ?_; clear S a; intro a S
  refine nxC ?_
  refine wp_seq ?_
  refine nxD ?_
  refine st_go [1, 1] S rfl (by kernel_rfl) ?_; clear S a; intro a S
  refine nxC ?_
  refine st_if (t := 32) S rfl ?_ ?_
  · clear S; intro h32 S
    exfalso; omega
  clear S; intro h32 S
  refine st_condF S rfl ?_
  refine wp_skip ?_
  refine nxE ?_
  refine st_makeMap (κ := Int) S M rfl rfl ?_; clear S M a; intro a w7 bP S M hB
  refine st_go [1] S rfl (by kernel_rfl) ?_; clear S a; intro a S
  refine nxA ?_
  refine st_makeMap (κ := Nm) S M rfl rfl ?_; clear S M a; intro a w8 bV S M hB
  refine st_go [1] S rfl (by kernel_rfl) ?_; clear S a; intro a S
  refine nxA ?_
  refine st_makeMap (κ := Nm) S M rfl rfl ?_; clear S M a; intro a w9 bB S M hB
  refine st_go [1] S rfl (by kernel_rfl) ?_; clear S a; intro a S
  refine nxA ?_
  refine st_makeMap (κ := Int) S M rfl rfl ?_; clear S M a; intro a w10 bU S M hB
  refine st_go [1] S rfl (by kernel_rfl) ?_; clear S a; intro a S
  refine nxC ?_
  refine wp_seq ?_
  refine wp_seq ?_
  obtain ⟨hl150, hgq⟩ := hgr (by assumption)
  refine wp_region_lit ?_
  refine st_go [1] S rfl (by kernel_rfl) ?_; clear S a; intro a S
  refine nxC ?_
  refine wp_block ?_
  refine wp_loop_g (fun m a w' => ∃ (k : Nat) (s : Ses) (rl ro : Rw) (of : Of8) (f : Int → Int) (B O : List Nm) (u : Int → Int) (mC : Mes Int) (cC : Nat) (mO : Mes Nm) (cO : Nat) (mB : Mes Nm) (cB : Nat) (mU : Mes Int) (cU : Nat), k ≤ l.length ∧ m = l.length - k ∧ OnceI k s f B O u mC cC mO cO mB cB mU cU ∧ Sees 266 a [(1, .slice va l.length vc), (2, .pointer (some ⟨bF, 0, none⟩)), (5, .pointer (some ⟨bS, 0, none⟩)), (7, .map (some bP)), (8, .map (some bV)), (9, .map (some bB)), (10, .map (some bU)), (11, .int .i64 (k : Int))] ∧ Mem w w' [rl.ent 65 37 s.l.length (fm Ope.cellsL s.l), ro.ent 91 5 s.over.length (fm End_.cellsL s.over), mapX bU mU cU, mapX bV mO cO, mapX bB mB cB, mapX bP mC cC, .blk bS (sesL s rl ro).toArray 29, .blk bF of.cellsL.toArray 22]) (l.length) ?_ ?_
  · skip
    replace M := M.ord [5, 5, 5, 4, 5, 5] (by simp only [ordO, oG, oS, oE, oZ, oB] <;> rfl)
    replace M := (M.rowNil 91 5).rowNil 65 37
    exact ⟨0, ⟨[], 0, 1, []⟩, ⟨none, 0, _, _⟩, ⟨none, 0, _, _⟩, of0, _, _, _, _, [], 0, [], 0, [], 0, [], 0, Nat.zero_le _, rfl, OnceI.start, S.sub _ rfl, M⟩
  clear S M a; intro m a wl
  rintro ⟨k, s, rl, ro, of, f, B, O, u, mC, cC, mO, cO, mB, cB, mU, cU, hk, rfl, hI, S, M⟩
  refine wp_seq ?_
  refine nxD ?_
  refine st_go [1, 1] S rfl (by kernel_rfl) ?_; clear S a; intro a S
  refine st_y S rfl rfl rfl (y_lenR (E := 47) S rfl ((M.actsW hv).1) (by kernel_rfl)) ?_; clear S a; intro a S
  refine st_go [1] S rfl (by kernel_rfl) ?_; clear S a; intro a S
  refine nxC ?_
  refine st_fi (t := 40) S rfl ?_ ?_
  · clear S; intro h40 S
    refine st_condF S rfl ?_
    refine wp_exit ?_
    refine then_exit ?_
    refine then_exit ?_
    refine block_hit ?_
    refine nxE ?_
    refine st_call (xs := []) S (enters_of Try.func6 (by decide) rfl) rfl rfl rfl (wakes24_any _) ?_
    rintro _ w69 ⟨rfl, hK⟩; refine ⟨_, rfl, ?_⟩; clear S a; intro a S; replace M := M.grow hK
    refine st_go [1] S rfl (by kernel_rfl) ?_; clear S a; intro a S
    refine nxC ?_
    refine wp_ret ?_
    refine end_one S rfl (res_tmp rfl) ?_
    first
      | exact ⟨rfl, M.below⟩
      | (exfalso; omega)
      | (exfalso; rcases hcase with ⟨h1, h2, h3⟩ | ⟨h1, h2⟩ <;> simp_all)
  clear S; intro h40 S
  refine st_condT S rfl ?_
  refine wp_skip ?_
  refine then_normal ?_
  have hkl : k < l.length := by omega
  obtain ⟨q, hq⟩ : ∃ q, l[k]? = some q := ⟨_, List.getElem?_eq_getElem hkl⟩
  obtain ⟨da, dc, xa, xc, hqc, hqb, hqx⟩ := hv.2 k q hq
  have hSI := hI.si
  have hz := hI.size
  have hub := hI.ub
  have hfb := hI.fb
  have hfn : ∀ z, 0 ≤ f z := (hSI zOf).nn
  have hw : s.Well := (hSI zOf).ok.well
  have hlast := hw.last
  have hlen8 := hw.len
  unfold Ses.size at hz
  refine wp_cut (fun a w' => ∃ (s2 : Ses) (rl2 ro2 : Rw) (of2 : Of8) (f2 : Int → Int) (B2 O2 : List Nm) (u2 : Int → Int) (mC2 : Mes Int) (cC2 : Nat) (mO2 : Mes Nm) (cO2 : Nat) (mB2 : Mes Nm) (cB2 : Nat) (mU2 : Mes Int) (cU2 : Nat), OnceI (k + 1) s2 f2 B2 O2 u2 mC2 cC2 mO2 cO2 mB2 cB2 mU2 cU2 ∧ Sees 266 a [(1, .slice va l.length vc), (2, .pointer (some ⟨bF, 0, none⟩)), (5, .pointer (some ⟨bS, 0, none⟩)), (7, .map (some bP)), (8, .map (some bV)), (9, .map (some bB)), (10, .map (some bU)), (11, .int .i64 (k : Int))] ∧ Mem w w' [rl2.ent 65 37 s2.l.length (fm Ope.cellsL s2.l), ro2.ent 91 5 s2.over.length (fm End_.cellsL s2.over), mapX bU mU2 cU2, mapX bV mO2 cO2, mapX bB mB2 cB2, mapX bP mC2 cC2, .blk bS (sesL s2 rl2 ro2).toArray 29, .blk bF of2.cellsL.toArray 22]) ?_ ?_
  · skip
    refine wp_block ?_
    refine nxD ?_
    refine st_go [1, 1] S rfl (by kernel_rfl) ?_; clear S a; intro a S
    refine st_y S rfl rfl rfl (y_indexR (e := 47) (sz := 54) S (by kernel_rfl) rfl ((M.actsW hv).1) rfl (by first | omega | (simp; done) | (simp; omega))) ?_; clear S a; intro a S
    try simp only [Int.toNat_natCast, Nat.mul_one, Nat.zero_add] at S
    refine st_y S rfl rfl rfl (y_loadAgg S (by kernel_rfl) rfl rfl ((M.actsW hv).1.at_.row (i := k) hqc rfl)) ?_; clear S a; intro a S
    refine st_alloc S M rfl rfl #[.int .i64 0, .int .i8 0, .int .i64 0, .int .i64 0, .int .i64 0, .slice none 0 0, .int .i64 0, .int .i64 0, .int .i8 0, .int .i64 0, .int .i64 0, .int .i64 0, .int .i64 0, .int .i64 0, .int .i64 0, .int .i64 0, .int .i64 0, .int .i8 0, .int .i64 0, .int .u8 0, .int .u8 0, .int .u8 0, .int .u8 0, .int .u8 0, .int .u8 0, .int .u8 0, .int .u8 0, .int .i64 0, .bool false, .int .i64 0, .int .i64 0, .slice none 0 0, .int .i64 0, .int .i64 0, .int .i64 0, .int .i64 0, .int .i64 0, .int .i64 0, .int .i64 0, .int .i64 0, .int .i64 0, .int .i64 0, .int .i64 0, .int .i64 0, .int .i64 0, .int .i64 0, .int .u8 0, .int .u8 0, .int .u8 0, .int .u8 0, .int .u8 0, .int .u8 0, .int .u8 0, .int .u8 0] (by kernel_rfl) ?_; clear S M a; intro a w11 bA S M hB
    refine st_store (sz := 54) (us := [_, _, _, _, _, _, _, _, _, _, _, _, _, _, _, _, _, _, _, _, _, _, _, _, _, _, _, _, _, _, _, _, _, _, _, _, _, _, _, _, _, _, _, _, _, _, _, _, _, _, _, _, _, _]) S M 0 rfl (by kernel_rfl) rfl rfl rfl rfl rfl rfl (by first | decide | (simp; done) | (simp; omega)) ?_; clear M; intro w12 M
    simp only [putL, List.set_cons_zero, List.set_cons_succ, Nat.reduceAdd] at M
    refine nxC ?_
    refine wp_seq ?_
    refine wp_seq ?_
    skip
    replace M := M.front 3 rfl
    simp only [List.eraseIdx_cons_succ, List.eraseIdx_cons_zero] at M
    refine wp_region_lit ?_
    refine st_go [1] S rfl (by kernel_rfl) ?_; clear S a; intro a S
    refine st_y S rfl rfl rfl (y_loadAgg (cs := [_, _, _, _, _, _, _, _, _, _, _, _, _, _, _, _, _, _, _, _, _, _, _, _, _, _, _, _, _, _, _, _, _, _, _, _, _, _, _, _, _, _, _, _, _, _, _, _, _, _, _, _, _, _]) S (by kernel_rfl) rfl rfl (M.cellsAt (k := 54) 1 rfl rfl)) ?_; clear S a; intro a S
    refine st_call (xs := [(Operand.tmp 47), (Operand.tmp 48)]) S (enters_of Try.func8 (by decide) rfl) rfl rfl rfl (again_any (A := _) q da xa q.bs.length dc q.x.length xc M hI.gU hI.vU (by have := hub q.stamp; omega)) ?_
    rintro _ w13 ⟨r, mU2, cU2, u2, rfl, hgU, hvU, M1, hag⟩; refine ⟨_, rfl, ?_⟩; clear S M a; intro a S; have M := M1; clear M1
    have hup := again_up hag
    refine nxC ?_
    refine st_if (t := 49) S rfl ?_ ?_
    · clear S; intro h49 S
      refine st_condT S rfl ?_
      refine wp_exit ?_
      refine then_exit ?_
      refine block_hit ?_
      refine then_normal ?_
      replace M := M.ord [8, 8, 8, 8, 8, 5, 8, 8] (by simp only [ordO, oG, oS, oE, oZ, oB] <;> rfl)
      replace M := M.pre 8
      first
        | exact ⟨s, rl, ro, of, f, B, O, u2, mC, cC, mO, cO, mB, cB, mU2, cU2, hI.keep hup hgU hvU (fun z => by omega) hI.gC hI.vC (hSI.mono fun z => (hup z).1), S.sub _ rfl, M⟩
        | exact ⟨s, rl, ro, q.of, f, B, O, u2, mC, cC, mO, cO, mB, cB, mU2, cU2, hI.keep hup hgU hvU (fun z => by omega) hI.gC hI.vC (hSI.mono fun z => (hup z).1), S.sub _ rfl, M⟩
        | exact ⟨s, rl, ro, of, f1, B, O, u2, mC1, cC1, mO, cO, mB, cB, mU2, cU2, hI.keep hX.up hX.gU hX.vU hX.fp hX.gC hX.vC hX.si, S.sub _ rfl, M⟩
        | exact ⟨s', rl', ro', of, _, _, _, u2, mC3, cC3, mO3, cO3, mB3, cB3, mU2, cU2, hI.next hX he hgC3 hvC3 hgO3 hvO3 hgB3 hvB3, S.sub _ rfl, M⟩
    clear S; intro h49 S
    refine st_condF S rfl ?_
    refine wp_skip ?_
    refine then_normal ?_
    refine wp_seq ?_
    have hr0 : r = false := by simpa using h49
    subst hr0
    have hfr := again_fresh hSI (fun z => (hub z).1) hag
    have hSI2 := hSI.mono fun z => (hup z).1
    refine wp_region_lit ?_
    refine st_alloc S M rfl rfl #[.slice none 0 0, .int .i64 0, .int .i64 0, .slice none 0 0] (by kernel_rfl) ?_; clear S M a; intro a w14 bX S M hB
    refine nxA ?_
    refine st_alloc S M rfl rfl #[.slice none 0 0, .slice none 0 0, .slice none 0 0, .slice none 0 0, .slice none 0 0] (by kernel_rfl) ?_; clear S M a; intro a w15 bT S M hB
    refine nxA ?_
    refine st_go [1] S rfl (by kernel_rfl) ?_; clear S a; intro a S
    refine nxC ?_
    refine wp_cut (fun a w' => ∃ (bA bX bT : Nat) (s' : Ses) (t' : Tol) (er : Int) (rl' ro' rm ra rs rc re : Rw) (f1 u2 : Int → Int) (mC1 : Mes Int) (cC1 : Nat) (mU2 : Mes Int) (cU2 : Nat), OnceX s f B O u er s' t' f1 u2 mC1 cC1 mU2 cU2 ∧ Sees 266 a [(1, .slice va l.length vc), (2, .pointer (some ⟨bF, 0, none⟩)), (5, .pointer (some ⟨bS, 0, none⟩)), (7, .map (some bP)), (8, .map (some bV)), (9, .map (some bB)), (10, .map (some bU)), (11, .int .i64 (k : Int)), (12, .pointer (some ⟨bA, 0, none⟩)), (13, .pointer (some ⟨bX, 0, none⟩)), (14, .pointer (some ⟨bT, 0, none⟩)), (15, .int .i64 er)] ∧ Mem w w' [rl'.ent 65 37 s'.l.length (fm Ope.cellsL s'.l), ro'.ent 91 5 s'.over.length (fm End_.cellsL s'.over), rm.ent 45 24 t'.mail.length (fm msgL t'.mail), ra.ent 69 13 t'.ans.length (fm Ans.cellsL t'.ans), rs.ent 71 14 t'.seen.length (fm Seen_.cellsL t'.seen), rc.ent 40 3 t'.com.length (fm nmL t'.com), re.ent 40 3 t'.ends.length (fm nmL t'.ends), .blk bT (tolL t' rm ra rs rc re).toArray 54, .blk bX (sesL s' rl' ro').toArray 29, .blk bA (q.cellsL (.slice da q.bs.length dc) (.slice xa q.x.length xc)).toArray 47, rl.ent 65 37 s.l.length (fm Ope.cellsL s.l), ro.ent 91 5 s.over.length (fm End_.cellsL s.over), mapX bU mU2 cU2, mapX bV mO cO, mapX bB mB cB, mapX bP mC1 cC1, .blk bS (sesL s rl ro).toArray 29, .blk bF of.cellsL.toArray 22]) ?_ ?_
    · skip
      refine nxD ?_
      refine st_run [1, 4] S M rfl (by kernel_rfl) ?_; clear S a; intro a S
      refine nxC ?_
      refine wp_block ?_
      refine nxD ?_
      refine st_go [1, 1] S rfl (by kernel_rfl) ?_; clear S a; intro a S
      refine nxC ?_
      refine st_if (t := 62) S rfl ?_ ?_
      · clear S; intro h62 S
        refine st_condT S rfl ?_
        refine nxD ?_
        refine st_y S rfl rfl rfl (y_loadAgg (cs := [_, _, _, _]) S (by kernel_rfl) rfl rfl (M.cellsAt (k := 4) 9 rfl rfl)) ?_; clear S a; intro a S
        refine st_go [2] S rfl (by kernel_rfl) ?_; clear S a; intro a S
        refine st_y S rfl rfl rfl (y_loadAgg (cs := [_, _, _, _, _, _]) S (by kernel_rfl) rfl rfl (M.cellsAt (k := 6) 3 rfl rfl)) ?_; clear S a; intro a S
        refine st_y S rfl rfl rfl (y_loadAgg (cs := [_, _, _, _, _, _, _, _]) S (by kernel_rfl) rfl rfl (M.cellsAt (k := 8) 10 rfl rfl)) ?_; clear S a; intro a S
        refine st_run [8, 4] S M rfl (by kernel_rfl) ?_; clear S a; intro a S
        refine st_call (xs := [(Operand.tmp 65), (Operand.tmp 67), (Operand.tmp 68), (Operand.tmp 70)]) S (enters_of Try.func9 (by decide) rfl) rfl rfl rfl (call_any (A := _) s rl.a ro.a rl.c ro.c q.c da dc q.bs of q.stamp (fun W M9 => ⟨M9.readAll 4 rfl (by unfold maxLen; omega), M9.readAll 5 rfl (by unfold maxLen; omega)⟩) M (by omega) hw.shok (fun W M9 => M9.argW hqb)) ?_
        rintro _ w16 hst
        obtain ⟨s', t', er, rl', ro', rm, ra, rs, rc, re, rfl, M1, hy⟩ := hst.step
        have hS : er = 0 → OnceS s s' t' (if q.c.kind = 0 then f else bump f q.c.h) B O u2 := fun h9 => OnceS.call hSI2 of (hfr (by omega)) (hy h9)
        refine ⟨_, rfl, ?_⟩; clear S M a; intro a S; have M := M1; clear M1
        simp only [sesE, tolE, List.cons_append, List.nil_append] at M
        refine st_go [1, 1, 1, 1] S rfl (by kernel_rfl) ?_; clear S a; intro a S
        refine st_store (sz := 4) (us := [_, _, _, _]) S M 8 rfl (by kernel_rfl) rfl rfl rfl rfl rfl rfl (by first | decide | (simp; done) | (simp; omega)) ?_; clear M; intro w17 M
        simp only [putL, List.set_cons_zero, List.set_cons_succ, Nat.reduceAdd] at M
        refine st_store (sz := 5) (us := [_, _, _, _, _]) S M 7 rfl (by kernel_rfl) rfl rfl rfl rfl rfl rfl (by first | decide | (simp; done) | (simp; omega)) ?_; clear M; intro w18 M
        simp only [putL, List.set_cons_zero, List.set_cons_succ, Nat.reduceAdd] at M
        refine st_go [1] S rfl (by kernel_rfl) ?_; clear S a; intro a S
        replace S := S.sub [(1, _), (2, _), (5, _), (7, _), (8, _), (9, _), (10, _), (11, _), (40, _), (12, _), (49, _), (13, _), (14, _), (51, _), (62, _), (15, _)] rfl
        refine nxA ?_
        refine st_go [1, 1, 1] S rfl (by kernel_rfl) ?_; clear S a; intro a S
        refine st_fi (t := 77) S rfl ?_ ?_
        · clear S; intro h77 S
          refine st_go [0, 0, 0, 0, 1] S rfl (by kernel_rfl) ?_; clear S a; intro a S
          refine nxC ?_
          refine st_condF S rfl ?_
          refine wp_skip ?_
          refine block_normal ?_
          refine then_normal ?_
          replace M := M.ord [17, 17, 17, 17, 17, 14, 17, 17, 17, 17, 17, 17, 17, 17, 17, 17, 17, 17] (by simp only [ordO, oG, oS, oE, oZ, oB] <;> rfl)
          first
            | exact ⟨bA, bX, bT, s', t', er, rl', ro', rm, ra, rs, rc, re, f, u2, mC, cC, mU2, cU2, ⟨hup, hgU, hvU, fun z => by omega, hI.gC, hI.vC, hSI2, hS⟩, S.sub _ rfl, M⟩
            | exact ⟨bA, bX, bT, s', t', er, rl', ro', rm, ra, rs, rc, re, f, u2, mC, cC, mU2, cU2, ⟨hup, hgU, hvU, fun z => by omega, hI.gC, hI.vC, hSI2, fun h9 => absurd h9 (by omega)⟩, S.sub _ rfl, M⟩
            | (rw [if_pos (show q.c.kind = 0 by omega)] at hS
               exact ⟨bA, bX, bT, s', t', er, rl', ro', rm, ra, rs, rc, re, f, u2, mC, cC, mU2, cU2, ⟨hup, hgU, hvU, fun z => by omega, hI.gC, hI.vC, hSI2, hS⟩, S.sub _ rfl, M⟩)
            | (rw [if_neg (show ¬ q.c.kind = 0 by omega)] at hS
               exact ⟨bA, bX, bT, s', t', er, rl', ro', rm, ra, rs, rc, re, bump f q.c.h, u2, _, _, mU2, cU2, ⟨hup, hgU, hvU, fun z => bump_ge f q.c.h z, hI.gC.put q.c.h (.int .i64 (f q.c.h + 1)), hI.vC.put q.c.h (f q.c.h + 1), hSI2.bump q.c.h, hS⟩, S.sub _ rfl, M⟩)
        clear S; intro h77 S
        refine st_run [2, 1, 11, 1, 1] S M rfl (by kernel_rfl) ?_; clear S a; intro a S
        refine nxC ?_
        refine st_fi (t := 82) S rfl ?_ ?_
        · clear S; intro h82 S
          refine st_condF S rfl ?_
          refine wp_skip ?_
          refine block_normal ?_
          refine then_normal ?_
          replace M := M.ord [17, 17, 17, 17, 17, 14, 17, 17, 17, 17, 17, 17, 17, 17, 17, 17, 17, 17] (by simp only [ordO, oG, oS, oE, oZ, oB] <;> rfl)
          first
            | exact ⟨bA, bX, bT, s', t', er, rl', ro', rm, ra, rs, rc, re, f, u2, mC, cC, mU2, cU2, ⟨hup, hgU, hvU, fun z => by omega, hI.gC, hI.vC, hSI2, hS⟩, S.sub _ rfl, M⟩
            | exact ⟨bA, bX, bT, s', t', er, rl', ro', rm, ra, rs, rc, re, f, u2, mC, cC, mU2, cU2, ⟨hup, hgU, hvU, fun z => by omega, hI.gC, hI.vC, hSI2, fun h9 => absurd h9 (by omega)⟩, S.sub _ rfl, M⟩
            | (rw [if_pos (show q.c.kind = 0 by omega)] at hS
               exact ⟨bA, bX, bT, s', t', er, rl', ro', rm, ra, rs, rc, re, f, u2, mC, cC, mU2, cU2, ⟨hup, hgU, hvU, fun z => by omega, hI.gC, hI.vC, hSI2, hS⟩, S.sub _ rfl, M⟩)
            | (rw [if_neg (show ¬ q.c.kind = 0 by omega)] at hS
               exact ⟨bA, bX, bT, s', t', er, rl', ro', rm, ra, rs, rc, re, bump f q.c.h, u2, _, _, mU2, cU2, ⟨hup, hgU, hvU, fun z => bump_ge f q.c.h z, hI.gC.put q.c.h (.int .i64 (f q.c.h + 1)), hI.vC.put q.c.h (f q.c.h + 1), hSI2.bump q.c.h, hS⟩, S.sub _ rfl, M⟩)
        clear S; intro h82 S
        refine st_condT S rfl ?_
        refine wp_region_lit ?_
        refine st_run [1, 2, 3, 11] S M rfl (by kernel_rfl) ?_; clear S a; intro a S
        refine st_y S rfl rfl rfl (y_lookupM (pos := 15) S M (keyN) (hI.gC) Try.underlying34 (zero_i64) rfl rfl rfl) ?_; clear S a; intro a S
        simp only [Bool.false_eq_true, if_false, hI.vC q.c.h] at S
        have hfh := hfb q.c.h
        have hfh2 := hfn q.c.h
        (first | refine st_y S rfl rfl rfl (y_addN S rfl rfl (by omega)) ?_ | refine st_y S rfl rfl rfl (y_int S rfl rfl rfl) ?_); clear S a; intro a S
        refine st_updateM (pos := 15) S M (keyN) (hI.gC) Try.underlying34 rfl rfl rfl rfl rfl ?_; clear M; intro w19 M
        simp only [List.set_cons_zero, List.set_cons_succ] at M
        refine wpList_nil ?_
        refine block_normal ?_
        refine then_normal ?_
        replace M := M.ord [17, 17, 17, 17, 17, 14, 17, 17, 17, 17, 17, 17, 17, 17, 17, 17, 17, 17] (by simp only [ordO, oG, oS, oE, oZ, oB] <;> rfl)
        first
          | exact ⟨bA, bX, bT, s', t', er, rl', ro', rm, ra, rs, rc, re, f, u2, mC, cC, mU2, cU2, ⟨hup, hgU, hvU, fun z => by omega, hI.gC, hI.vC, hSI2, hS⟩, S.sub _ rfl, M⟩
          | exact ⟨bA, bX, bT, s', t', er, rl', ro', rm, ra, rs, rc, re, f, u2, mC, cC, mU2, cU2, ⟨hup, hgU, hvU, fun z => by omega, hI.gC, hI.vC, hSI2, fun h9 => absurd h9 (by omega)⟩, S.sub _ rfl, M⟩
          | (rw [if_pos (show q.c.kind = 0 by omega)] at hS
             exact ⟨bA, bX, bT, s', t', er, rl', ro', rm, ra, rs, rc, re, f, u2, mC, cC, mU2, cU2, ⟨hup, hgU, hvU, fun z => by omega, hI.gC, hI.vC, hSI2, hS⟩, S.sub _ rfl, M⟩)
          | (rw [if_neg (show ¬ q.c.kind = 0 by omega)] at hS
             exact ⟨bA, bX, bT, s', t', er, rl', ro', rm, ra, rs, rc, re, bump f q.c.h, u2, _, _, mU2, cU2, ⟨hup, hgU, hvU, fun z => bump_ge f q.c.h z, hI.gC.put q.c.h (.int .i64 (f q.c.h + 1)), hI.vC.put q.c.h (f q.c.h + 1), hSI2.bump q.c.h, hS⟩, S.sub _ rfl, M⟩)
      clear S; intro h62 S
      refine st_condF S rfl ?_
      refine nxD ?_
      refine st_go [1, 1] S rfl (by kernel_rfl) ?_; clear S a; intro a S
      refine nxC ?_
      refine st_if (t := 89) S rfl ?_ ?_
      · clear S; intro h89 S
        refine st_condT S rfl ?_
        refine wp_region_lit ?_
        refine st_y S rfl rfl rfl (y_loadAgg (cs := [_, _, _, _]) S (by kernel_rfl) rfl rfl (M.cellsAt (k := 4) 9 rfl rfl)) ?_; clear S a; intro a S
        refine st_go [9] S rfl (by kernel_rfl) ?_; clear S a; intro a S
        refine st_y S rfl rfl rfl (y_loadAgg (cs := [_, _, _, _, _, _, _, _, _, _, _, _, _, _, _, _, _, _, _, _, _, _, _, _]) S (by kernel_rfl) rfl rfl (M.cellsAt (k := 24) 3 rfl rfl)) ?_; clear S a; intro a S
        refine st_y S rfl rfl rfl (y_loadAgg (cs := [_, _, _, _, _, _, _, _]) S (by kernel_rfl) rfl rfl (M.cellsAt (k := 8) 10 rfl rfl)) ?_; clear S a; intro a S
        refine st_call (xs := [(Operand.tmp 92), (Operand.tmp 94), (Operand.tmp 95)]) S (enters_of Try.func10 (by decide) rfl) rfl rfl rfl (hear_any (A := _) s rl.a ro.a rl.c ro.c q.m xa xc q.x of (fun W M9 => ⟨M9.readAll 4 rfl (by unfold maxLen; omega), M9.readAll 5 rfl (by unfold maxLen; omega)⟩) M (by omega) hw.shok (fun W M9 => M9.argW hqx)) ?_
        rintro _ w20 hst
        obtain ⟨s', t', er, rl', ro', rm, ra, rs, rc, re, rfl, M1, hy⟩ := hst.step
        have hS : er = 0 → OnceS s s' t' f B O u2 := fun h9 => OnceS.hear hSI2 (hy h9).2.2
        refine ⟨_, rfl, ?_⟩; clear S M a; intro a S; have M := M1; clear M1
        simp only [sesE, tolE, List.cons_append, List.nil_append] at M
        refine st_go [1, 1, 1, 1] S rfl (by kernel_rfl) ?_; clear S a; intro a S
        refine st_store (sz := 4) (us := [_, _, _, _]) S M 8 rfl (by kernel_rfl) rfl rfl rfl rfl rfl rfl (by first | decide | (simp; done) | (simp; omega)) ?_; clear M; intro w21 M
        simp only [putL, List.set_cons_zero, List.set_cons_succ, Nat.reduceAdd] at M
        refine st_store (sz := 5) (us := [_, _, _, _, _]) S M 7 rfl (by kernel_rfl) rfl rfl rfl rfl rfl rfl (by first | decide | (simp; done) | (simp; omega)) ?_; clear M; intro w22 M
        simp only [putL, List.set_cons_zero, List.set_cons_succ, Nat.reduceAdd] at M
        refine st_go [1] S rfl (by kernel_rfl) ?_; clear S a; intro a S
        replace S := S.sub [(1, _), (2, _), (5, _), (7, _), (8, _), (9, _), (10, _), (11, _), (40, _), (12, _), (49, _), (13, _), (14, _), (51, _), (62, _), (89, _), (15, _)] rfl
        refine wpList_nil ?_
        refine block_normal ?_
        refine then_normal ?_
        replace M := M.ord [17, 17, 17, 17, 17, 14, 17, 17, 17, 17, 17, 17, 17, 17, 17, 17, 17, 17] (by simp only [ordO, oG, oS, oE, oZ, oB] <;> rfl)
        first
          | exact ⟨bA, bX, bT, s', t', er, rl', ro', rm, ra, rs, rc, re, f, u2, mC, cC, mU2, cU2, ⟨hup, hgU, hvU, fun z => by omega, hI.gC, hI.vC, hSI2, hS⟩, S.sub _ rfl, M⟩
          | exact ⟨bA, bX, bT, s', t', er, rl', ro', rm, ra, rs, rc, re, f, u2, mC, cC, mU2, cU2, ⟨hup, hgU, hvU, fun z => by omega, hI.gC, hI.vC, hSI2, fun h9 => absurd h9 (by omega)⟩, S.sub _ rfl, M⟩
          | (rw [if_pos (show q.c.kind = 0 by omega)] at hS
             exact ⟨bA, bX, bT, s', t', er, rl', ro', rm, ra, rs, rc, re, f, u2, mC, cC, mU2, cU2, ⟨hup, hgU, hvU, fun z => by omega, hI.gC, hI.vC, hSI2, hS⟩, S.sub _ rfl, M⟩)
          | (rw [if_neg (show ¬ q.c.kind = 0 by omega)] at hS
             exact ⟨bA, bX, bT, s', t', er, rl', ro', rm, ra, rs, rc, re, bump f q.c.h, u2, _, _, mU2, cU2, ⟨hup, hgU, hvU, fun z => bump_ge f q.c.h z, hI.gC.put q.c.h (.int .i64 (f q.c.h + 1)), hI.vC.put q.c.h (f q.c.h + 1), hSI2.bump q.c.h, hS⟩, S.sub _ rfl, M⟩)
      clear S; intro h89 S
      refine st_condF S rfl ?_
      refine nxD ?_
      refine st_go [1, 1] S rfl (by kernel_rfl) ?_; clear S a; intro a S
      refine nxC ?_
      refine st_if (t := 100) S rfl ?_ ?_
      · clear S; intro h100 S
        refine st_condT S rfl ?_
        refine wp_region_lit ?_
        refine st_y S rfl rfl rfl (y_loadAgg (cs := [_, _, _, _]) S (by kernel_rfl) rfl rfl (M.cellsAt (k := 4) 9 rfl rfl)) ?_; clear S a; intro a S
        refine st_go [33] S rfl (by kernel_rfl) ?_; clear S a; intro a S
        refine st_y S rfl rfl rfl (y_loadAgg (cs := [_, _, _]) S (by kernel_rfl) rfl rfl (M.cellsAt (k := 3) 3 rfl rfl)) ?_; clear S a; intro a S
        refine st_run [36, 4] S M rfl (by kernel_rfl) ?_; clear S a; intro a S
        refine st_call (xs := [(Operand.tmp 103), (Operand.tmp 105), (Operand.tmp 107)]) S (enters_of Try.func11 (by decide) rfl) rfl rfl rfl (end_any (A := _) s rl.a ro.a rl.c ro.c q.nm q.e (fun W M9 => ⟨M9.readAll 4 rfl (by unfold maxLen; omega), M9.readAll 5 rfl (by unfold maxLen; omega)⟩) M (by omega) hw.shok) ?_
        rintro _ w23 hst
        obtain ⟨s', t', er, rl', ro', rm, ra, rs, rc, re, rfl, M1, hy⟩ := hst
        have hS : er = 0 → OnceS s s' t' f B O u2 := fun h9 => OnceS.endR hSI2 (hy h9).2
        refine ⟨_, rfl, ?_⟩; clear S M a; intro a S; have M := M1; clear M1
        simp only [sesE, tolE, List.cons_append, List.nil_append] at M
        refine st_go [1, 1, 1, 1] S rfl (by kernel_rfl) ?_; clear S a; intro a S
        refine st_store (sz := 4) (us := [_, _, _, _]) S M 8 rfl (by kernel_rfl) rfl rfl rfl rfl rfl rfl (by first | decide | (simp; done) | (simp; omega)) ?_; clear M; intro w24 M
        simp only [putL, List.set_cons_zero, List.set_cons_succ, Nat.reduceAdd] at M
        refine st_store (sz := 5) (us := [_, _, _, _, _]) S M 7 rfl (by kernel_rfl) rfl rfl rfl rfl rfl rfl (by first | decide | (simp; done) | (simp; omega)) ?_; clear M; intro w25 M
        simp only [putL, List.set_cons_zero, List.set_cons_succ, Nat.reduceAdd] at M
        refine st_go [1] S rfl (by kernel_rfl) ?_; clear S a; intro a S
        replace S := S.sub [(1, _), (2, _), (5, _), (7, _), (8, _), (9, _), (10, _), (11, _), (40, _), (12, _), (49, _), (13, _), (14, _), (51, _), (62, _), (89, _), (100, _), (15, _)] rfl
        refine wpList_nil ?_
        refine block_normal ?_
        refine then_normal ?_
        replace M := M.ord [17, 17, 17, 17, 17, 14, 17, 17, 17, 17, 17, 17, 17, 17, 17, 17, 17, 17] (by simp only [ordO, oG, oS, oE, oZ, oB] <;> rfl)
        first
          | exact ⟨bA, bX, bT, s', t', er, rl', ro', rm, ra, rs, rc, re, f, u2, mC, cC, mU2, cU2, ⟨hup, hgU, hvU, fun z => by omega, hI.gC, hI.vC, hSI2, hS⟩, S.sub _ rfl, M⟩
          | exact ⟨bA, bX, bT, s', t', er, rl', ro', rm, ra, rs, rc, re, f, u2, mC, cC, mU2, cU2, ⟨hup, hgU, hvU, fun z => by omega, hI.gC, hI.vC, hSI2, fun h9 => absurd h9 (by omega)⟩, S.sub _ rfl, M⟩
          | (rw [if_pos (show q.c.kind = 0 by omega)] at hS
             exact ⟨bA, bX, bT, s', t', er, rl', ro', rm, ra, rs, rc, re, f, u2, mC, cC, mU2, cU2, ⟨hup, hgU, hvU, fun z => by omega, hI.gC, hI.vC, hSI2, hS⟩, S.sub _ rfl, M⟩)
          | (rw [if_neg (show ¬ q.c.kind = 0 by omega)] at hS
             exact ⟨bA, bX, bT, s', t', er, rl', ro', rm, ra, rs, rc, re, bump f q.c.h, u2, _, _, mU2, cU2, ⟨hup, hgU, hvU, fun z => bump_ge f q.c.h z, hI.gC.put q.c.h (.int .i64 (f q.c.h + 1)), hI.vC.put q.c.h (f q.c.h + 1), hSI2.bump q.c.h, hS⟩, S.sub _ rfl, M⟩)
      clear S; intro h100 S
      refine st_condF S rfl ?_
      refine nxD ?_
      refine st_go [1, 1] S rfl (by kernel_rfl) ?_; clear S a; intro a S
      replace S := S.sub [(1, _), (2, _), (5, _), (7, _), (8, _), (9, _), (10, _), (11, _), (40, _), (12, _), (49, _), (13, _), (14, _), (15, _), (51, _), (62, _), (89, _), (100, _), (112, _)] rfl
      refine nxC ?_
      refine st_if (t := 112) S rfl ?_ ?_
      · clear S; intro h112 S
        refine st_condT S rfl ?_
        refine wp_region_lit ?_
        refine st_y S rfl rfl rfl (y_loadAgg (cs := [_, _, _, _]) S (by kernel_rfl) rfl rfl (M.cellsAt (k := 4) 9 rfl rfl)) ?_; clear S a; intro a S
        refine st_y S rfl rfl rfl (y_loadAgg (cs := [_, _, _, _, _, _, _, _]) S (by kernel_rfl) rfl rfl (M.cellsAt (k := 8) 10 rfl rfl)) ?_; clear S a; intro a S
        refine st_call (xs := [(Operand.tmp 115), (Operand.tmp 116)]) S (enters_of Try.func12 (by decide) rfl) rfl rfl rfl (tick_any (A := _) s rl.a ro.a rl.c ro.c of (fun W M9 => ⟨M9.readAll 4 rfl (by unfold maxLen; omega), M9.readAll 5 rfl (by unfold maxLen; omega)⟩) M (by omega) hw.shok) ?_
        rintro _ w26 hst
        obtain ⟨s', t', er, rl', ro', rm, ra, rs, rc, re, rfl, M1, hy⟩ := hst
        have hS : er = 0 → OnceS s s' t' f B O u2 := fun h9 => OnceS.tick hSI2 (hy h9).2
        refine ⟨_, rfl, ?_⟩; clear S M a; intro a S; have M := M1; clear M1
        simp only [sesE, tolE, List.cons_append, List.nil_append] at M
        refine st_go [1, 1, 1, 1] S rfl (by kernel_rfl) ?_; clear S a; intro a S
        refine st_store (sz := 4) (us := [_, _, _, _]) S M 8 rfl (by kernel_rfl) rfl rfl rfl rfl rfl rfl (by first | decide | (simp; done) | (simp; omega)) ?_; clear M; intro w27 M
        simp only [putL, List.set_cons_zero, List.set_cons_succ, Nat.reduceAdd] at M
        refine st_store (sz := 5) (us := [_, _, _, _, _]) S M 7 rfl (by kernel_rfl) rfl rfl rfl rfl rfl rfl (by first | decide | (simp; done) | (simp; omega)) ?_; clear M; intro w28 M
        simp only [putL, List.set_cons_zero, List.set_cons_succ, Nat.reduceAdd] at M
        refine st_go [1] S rfl (by kernel_rfl) ?_; clear S a; intro a S
        refine wpList_nil ?_
        refine block_normal ?_
        refine then_normal ?_
        replace M := M.ord [17, 17, 17, 17, 17, 14, 17, 17, 17, 17, 17, 17, 17, 17, 17, 17, 17, 17] (by simp only [ordO, oG, oS, oE, oZ, oB] <;> rfl)
        first
          | exact ⟨bA, bX, bT, s', t', er, rl', ro', rm, ra, rs, rc, re, f, u2, mC, cC, mU2, cU2, ⟨hup, hgU, hvU, fun z => by omega, hI.gC, hI.vC, hSI2, hS⟩, S.sub _ rfl, M⟩
          | exact ⟨bA, bX, bT, s', t', er, rl', ro', rm, ra, rs, rc, re, f, u2, mC, cC, mU2, cU2, ⟨hup, hgU, hvU, fun z => by omega, hI.gC, hI.vC, hSI2, fun h9 => absurd h9 (by omega)⟩, S.sub _ rfl, M⟩
          | (rw [if_pos (show q.c.kind = 0 by omega)] at hS
             exact ⟨bA, bX, bT, s', t', er, rl', ro', rm, ra, rs, rc, re, f, u2, mC, cC, mU2, cU2, ⟨hup, hgU, hvU, fun z => by omega, hI.gC, hI.vC, hSI2, hS⟩, S.sub _ rfl, M⟩)
          | (rw [if_neg (show ¬ q.c.kind = 0 by omega)] at hS
             exact ⟨bA, bX, bT, s', t', er, rl', ro', rm, ra, rs, rc, re, bump f q.c.h, u2, _, _, mU2, cU2, ⟨hup, hgU, hvU, fun z => bump_ge f q.c.h z, hI.gC.put q.c.h (.int .i64 (f q.c.h + 1)), hI.vC.put q.c.h (f q.c.h + 1), hSI2.bump q.c.h, hS⟩, S.sub _ rfl, M⟩)
      clear S; intro h112 S
      refine st_condF S rfl ?_
      refine nxD ?_
      refine st_go [1, 1] S rfl (by kernel_rfl) ?_; clear S a; intro a S
      refine nxC ?_
      refine st_if (t := 121) S rfl ?_ ?_
      · clear S; intro h121 S
        refine st_condT S rfl ?_
        refine wp_region_lit ?_
        refine st_y S rfl rfl rfl (y_loadAgg (cs := [_, _, _, _]) S (by kernel_rfl) rfl rfl (M.cellsAt (k := 4) 9 rfl rfl)) ?_; clear S a; intro a S
        refine st_run [37, 4] S M rfl (by kernel_rfl) ?_; clear S a; intro a S
        refine st_call (xs := [(Operand.tmp 124), (Operand.tmp 126)]) S (enters_of Try.func13 (by decide) rfl) rfl rfl rfl (anew_any (A := _) s rl.a ro.a rl.c ro.c q.shard (fun W M9 => ⟨M9.readAll 4 rfl (by unfold maxLen; omega), M9.readAll 5 rfl (by unfold maxLen; omega)⟩) M (by omega) hw.shok) ?_
        rintro _ w29 hst
        obtain ⟨s', t', er, rl', ro', rm, ra, rs, rc, re, rfl, M1, hy⟩ := hst
        have hS : er = 0 → OnceS s s' t' f B O u2 := fun h9 => OnceS.anew hSI2 (by unfold Ses.size; omega) (hy h9).2.2
        refine ⟨_, rfl, ?_⟩; clear S M a; intro a S; have M := M1; clear M1
        simp only [sesE, tolE, List.cons_append, List.nil_append] at M
        refine st_go [1, 1, 1, 1] S rfl (by kernel_rfl) ?_; clear S a; intro a S
        refine st_store (sz := 4) (us := [_, _, _, _]) S M 8 rfl (by kernel_rfl) rfl rfl rfl rfl rfl rfl (by first | decide | (simp; done) | (simp; omega)) ?_; clear M; intro w30 M
        simp only [putL, List.set_cons_zero, List.set_cons_succ, Nat.reduceAdd] at M
        refine st_store (sz := 5) (us := [_, _, _, _, _]) S M 7 rfl (by kernel_rfl) rfl rfl rfl rfl rfl rfl (by first | decide | (simp; done) | (simp; omega)) ?_; clear M; intro w31 M
        simp only [putL, List.set_cons_zero, List.set_cons_succ, Nat.reduceAdd] at M
        refine st_go [1] S rfl (by kernel_rfl) ?_; clear S a; intro a S
        refine wpList_nil ?_
        refine block_normal ?_
        refine then_normal ?_
        replace M := M.ord [17, 17, 17, 17, 17, 14, 17, 17, 17, 17, 17, 17, 17, 17, 17, 17, 17, 17] (by simp only [ordO, oG, oS, oE, oZ, oB] <;> rfl)
        first
          | exact ⟨bA, bX, bT, s', t', er, rl', ro', rm, ra, rs, rc, re, f, u2, mC, cC, mU2, cU2, ⟨hup, hgU, hvU, fun z => by omega, hI.gC, hI.vC, hSI2, hS⟩, S.sub _ rfl, M⟩
          | exact ⟨bA, bX, bT, s', t', er, rl', ro', rm, ra, rs, rc, re, f, u2, mC, cC, mU2, cU2, ⟨hup, hgU, hvU, fun z => by omega, hI.gC, hI.vC, hSI2, fun h9 => absurd h9 (by omega)⟩, S.sub _ rfl, M⟩
          | (rw [if_pos (show q.c.kind = 0 by omega)] at hS
             exact ⟨bA, bX, bT, s', t', er, rl', ro', rm, ra, rs, rc, re, f, u2, mC, cC, mU2, cU2, ⟨hup, hgU, hvU, fun z => by omega, hI.gC, hI.vC, hSI2, hS⟩, S.sub _ rfl, M⟩)
          | (rw [if_neg (show ¬ q.c.kind = 0 by omega)] at hS
             exact ⟨bA, bX, bT, s', t', er, rl', ro', rm, ra, rs, rc, re, bump f q.c.h, u2, _, _, mU2, cU2, ⟨hup, hgU, hvU, fun z => bump_ge f q.c.h z, hI.gC.put q.c.h (.int .i64 (f q.c.h + 1)), hI.vC.put q.c.h (f q.c.h + 1), hSI2.bump q.c.h, hS⟩, S.sub _ rfl, M⟩)
      clear S; intro h121 S
      refine st_condF S rfl ?_
      refine nxD ?_
      refine st_go [1, 1] S rfl (by kernel_rfl) ?_; clear S a; intro a S
      refine nxC ?_
      refine st_if (t := 131) S rfl ?_ ?_
      · clear S; intro h131 S
        refine st_condT S rfl ?_
        refine nxD ?_
        refine st_go [38] S rfl (by kernel_rfl) ?_; clear S a; intro a S
        refine st_y S rfl rfl rfl (y_loadAgg (cs := [_, _, _, _, _, _, _, _]) S (by kernel_rfl) rfl rfl (M.cellsAt (k := 8) 3 rfl rfl)) ?_; clear S a; intro a S
        refine st_store (sz := 8) (us := [_, _, _, _, _, _, _, _]) S M 10 rfl (by kernel_rfl) rfl rfl rfl rfl rfl rfl (by first | decide | (simp; done) | (simp; omega)) ?_; clear M; intro w32 M
        simp only [putL, List.set_cons_zero, List.set_cons_succ, Nat.reduceAdd] at M
        refine nxC ?_
        refine wp_exit ?_
        refine block_miss rfl ?_
        refine then_exit ?_
        refine block_hit ?_
        refine then_normal ?_
        replace M := M.ord [10, 10, 10, 10, 10, 7, 10, 10] (by simp only [ordO, oG, oS, oE, oZ, oB] <;> rfl)
        replace M := M.pre 8
        first
          | exact ⟨s, rl, ro, of, f, B, O, u2, mC, cC, mO, cO, mB, cB, mU2, cU2, hI.keep hup hgU hvU (fun z => by omega) hI.gC hI.vC (hSI.mono fun z => (hup z).1), S.sub _ rfl, M⟩
          | exact ⟨s, rl, ro, q.of, f, B, O, u2, mC, cC, mO, cO, mB, cB, mU2, cU2, hI.keep hup hgU hvU (fun z => by omega) hI.gC hI.vC (hSI.mono fun z => (hup z).1), S.sub _ rfl, M⟩
          | exact ⟨s, rl, ro, of, f1, B, O, u2, mC1, cC1, mO, cO, mB, cB, mU2, cU2, hI.keep hX.up hX.gU hX.vU hX.fp hX.gC hX.vC hX.si, S.sub _ rfl, M⟩
          | exact ⟨s', rl', ro', of, _, _, _, u2, mC3, cC3, mO3, cO3, mB3, cB3, mU2, cU2, hI.next hX he hgC3 hvC3 hgO3 hvO3 hgB3 hvB3, S.sub _ rfl, M⟩
      clear S; intro h131 S
      refine st_condF S rfl ?_
      refine wp_regionK [5, 10, 11] #[false, false, false, false, false, false, false, false, false, false, false, false, false] rfl M (by kernel_rfl) ?_; clear M; intro w33 M
      refine k_read 0 S rfl (fun w hW => have M := M.grow hW; y_loadAgg (cs := [_, _, _, _]) S (by kernel_rfl) rfl rfl (M.cellsAt (k := 4) 9 rfl rfl)) ?_; clear S a; intro a S
      refine k_read 1 S rfl (fun w hW => have M := M.grow hW; y_loadAgg (cs := [_, _, _, _]) S (by kernel_rfl) rfl rfl (M.cellsAt (k := 4) 9 rfl rfl)) ?_; clear S a; intro a S
      refine k_read 2 S rfl (fun w hW => have M := M.grow hW; y_loadAgg (cs := [_, _, _, _, _, _, _, _, _, _, _, _, _, _, _, _, _, _, _, _, _, _, _, _, _, _, _, _, _, _, _, _, _, _, _, _, _, _, _, _, _, _, _, _, _, _, _, _, _, _, _, _, _, _]) S (by kernel_rfl) rfl rfl (M.cellsAt (k := 54) 3 rfl rfl)) ?_; clear S a; intro a S
      refine k_read 4 S rfl (fun w hW => have M := M.grow hW; y_loadAgg (cs := [_, _, _, _, _, _, _, _]) S (by kernel_rfl) rfl rfl (M.cellsAt (k := 8) 10 rfl rfl)) ?_; clear S a; intro a S
      refine k_one 3 rfl (by kernel_rfl) ?_
      refine st_call (xs := [(Operand.tmp 54), (Operand.tmp 55)]) S (enters_of Try.func14 (by decide) rfl) rfl rfl rfl (waited_any s rl.a rl.c ro.a s.over.length ro.c q da xa q.bs.length dc q.x.length xc _ (M.readAll 4 rfl (by unfold maxLen; omega)) (by omega)) ?_
      rintro _ w34 ⟨mw, rfl, hK⟩; refine ⟨_, rfl, ?_⟩; clear S a; intro a S; replace M := M.grow hK
      refine wpList_nil ?_; refine then_normal ?_; refine ⟨fun _ => hK, ?_⟩
      refine k_one 5 rfl (by kernel_rfl) ?_
      refine st_call (xs := [(Operand.tmp 53), (Operand.tmp 56), (Operand.tmp 57)]) S (enters_of Try.func10 (by decide) rfl) rfl rfl rfl (hear_any (A := _) s rl.a ro.a rl.c ro.c mw none 0 [] of (fun W M9 => ⟨M9.readAll 4 rfl (by unfold maxLen; omega), M9.readAll 5 rfl (by unfold maxLen; omega)⟩) M (by omega) hw.shok (fun W M9 => Rd.nil _ _ _ _)) ?_
      rintro _ w35 hst
      obtain ⟨s', t', er, rl', ro', rm, ra, rs, rc, re, rfl, M1, hy⟩ := hst.step
      have hS : er = 0 → OnceS s s' t' f B O u2 := fun h9 => OnceS.hear hSI2 (hy h9).2.2
      refine ⟨_, rfl, ?_⟩; clear S M a; intro a S; have M := M1; clear M1
      simp only [sesE, tolE, List.cons_append, List.nil_append] at M
      refine wpList_nil ?_; refine then_normal ?_; refine ⟨fun h => absurd h (by decide), ?_⟩
      refine k_pure 6 S rfl (fun w => y_move S rfl) ?_; clear S a; intro a S
      refine k_pure 7 S rfl (fun w => y_extract S rfl rfl) ?_; clear S a; intro a S
      refine k_pure 8 S rfl (fun w => y_extract S rfl rfl) ?_; clear S a; intro a S
      refine k_pure 9 S rfl (fun w => y_extract S rfl rfl) ?_; clear S a; intro a S
      refine k_one 10 rfl (by kernel_rfl) ?_
      refine st_store (sz := 4) (us := [_, _, _, _]) S M 8 rfl (by kernel_rfl) rfl rfl rfl rfl rfl rfl (by first | decide | (simp; done) | (simp; omega)) ?_; clear M; intro w36 M
      simp only [putL, List.set_cons_zero, List.set_cons_succ, Nat.reduceAdd] at M
      refine wpList_nil ?_; refine then_normal ?_; refine ⟨fun h => absurd h (by decide), ?_⟩
      refine k_one 11 rfl (by kernel_rfl) ?_
      refine st_store (sz := 5) (us := [_, _, _, _, _]) S M 7 rfl (by kernel_rfl) rfl rfl rfl rfl rfl rfl (by first | decide | (simp; done) | (simp; omega)) ?_; clear M; intro w37 M
      simp only [putL, List.set_cons_zero, List.set_cons_succ, Nat.reduceAdd] at M
      refine wpList_nil ?_; refine then_normal ?_; refine ⟨fun h => absurd h (by decide), ?_⟩
      refine k_pure 12 S rfl (fun w => y_assign S rfl) ?_; clear S a; intro a S
      refine k_end (by kernel_rfl) ?_
      refine block_normal ?_
      refine then_normal ?_
      replace M := M.ord [17, 17, 17, 17, 17, 14, 17, 17, 17, 17, 17, 17, 17, 17, 17, 17, 17, 17] (by simp only [ordO, oG, oS, oE, oZ, oB] <;> rfl)
      first
        | exact ⟨bA, bX, bT, s', t', er, rl', ro', rm, ra, rs, rc, re, f, u2, mC, cC, mU2, cU2, ⟨hup, hgU, hvU, fun z => by omega, hI.gC, hI.vC, hSI2, hS⟩, S.sub _ rfl, M⟩
        | exact ⟨bA, bX, bT, s', t', er, rl', ro', rm, ra, rs, rc, re, f, u2, mC, cC, mU2, cU2, ⟨hup, hgU, hvU, fun z => by omega, hI.gC, hI.vC, hSI2, fun h9 => absurd h9 (by omega)⟩, S.sub _ rfl, M⟩
        | (rw [if_pos (show q.c.kind = 0 by omega)] at hS
           exact ⟨bA, bX, bT, s', t', er, rl', ro', rm, ra, rs, rc, re, f, u2, mC, cC, mU2, cU2, ⟨hup, hgU, hvU, fun z => by omega, hI.gC, hI.vC, hSI2, hS⟩, S.sub _ rfl, M⟩)
        | (rw [if_neg (show ¬ q.c.kind = 0 by omega)] at hS
           exact ⟨bA, bX, bT, s', t', er, rl', ro', rm, ra, rs, rc, re, bump f q.c.h, u2, _, _, mU2, cU2, ⟨hup, hgU, hvU, fun z => bump_ge f q.c.h z, hI.gC.put q.c.h (.int .i64 (f q.c.h + 1)), hI.vC.put q.c.h (f q.c.h + 1), hSI2.bump q.c.h, hS⟩, S.sub _ rfl, M⟩)
    clear S a M; intro a wc
    rintro ⟨bA, bX, bT, s', t', er, rl', ro', rm, ra, rs, rc, re, f1, u2, mC1, cC1, mU2, cU2, hX, S, M⟩
    refine wp_seq ?_
    refine nxD ?_
    refine st_go [1, 1] S rfl (by kernel_rfl) ?_; clear S a; intro a S
    refine nxC ?_
    refine st_if (t := 136) S rfl ?_ ?_
    · clear S; intro h136 S
      refine st_condT S rfl ?_
      refine wp_exit ?_
      refine then_exit ?_
      refine block_hit ?_
      refine then_normal ?_
      replace M := M.ord [17, 17, 17, 17, 17, 17, 17, 17] (by simp only [ordO, oG, oS, oE, oZ, oB] <;> rfl)
      replace M := M.pre 8
      first
        | exact ⟨s, rl, ro, of, f, B, O, u2, mC, cC, mO, cO, mB, cB, mU2, cU2, hI.keep hup hgU hvU (fun z => by omega) hI.gC hI.vC (hSI.mono fun z => (hup z).1), S.sub _ rfl, M⟩
        | exact ⟨s, rl, ro, q.of, f, B, O, u2, mC, cC, mO, cO, mB, cB, mU2, cU2, hI.keep hup hgU hvU (fun z => by omega) hI.gC hI.vC (hSI.mono fun z => (hup z).1), S.sub _ rfl, M⟩
        | exact ⟨s, rl, ro, of, f1, B, O, u2, mC1, cC1, mO, cO, mB, cB, mU2, cU2, hI.keep hX.up hX.gU hX.vU hX.fp hX.gC hX.vC hX.si, S.sub _ rfl, M⟩
        | exact ⟨s', rl', ro', of, _, _, _, u2, mC3, cC3, mO3, cO3, mB3, cB3, mU2, cU2, hI.next hX he hgC3 hvC3 hgO3 hvO3 hgB3 hvB3, S.sub _ rfl, M⟩
    clear S; intro h136 S
    refine st_condF S rfl ?_
    refine wp_skip ?_
    refine then_normal ?_
    refine wp_seq ?_
    refine wp_seq ?_
    have he : er = 0 := by omega
    have hS := hX.step he
    obtain ⟨of9, hDI⟩ := hS.di
    have hSI3 := hDI.next
    have hsz := hS.size
    obtain ⟨hsh1, hsh2, hsh3⟩ := hS.short
    have hw2 : s'.Well := hDI.ok.well
    have hlen2 := hw2.len
    unfold Ses.size at hsz
    refine wp_region_lit ?_
    refine st_go [1] S rfl (by kernel_rfl) ?_; clear S a; intro a S
    refine nxC ?_
    refine wp_block ?_
    refine wp_loop_g (fun m a w' => ∃ (j : Nat) (mC3 : Mes Int) (cC3 : Nat), j ≤ t'.ans.length ∧ m = t'.ans.length - j ∧ Good eN mC3 cC3 ∧ CV mC3 (ansF f1 (t'.ans.take j)) ∧ Sees 266 a [(1, .slice va l.length vc), (2, .pointer (some ⟨bF, 0, none⟩)), (5, .pointer (some ⟨bS, 0, none⟩)), (7, .map (some bP)), (8, .map (some bV)), (9, .map (some bB)), (10, .map (some bU)), (11, .int .i64 (k : Int)), (12, .pointer (some ⟨bA, 0, none⟩)), (13, .pointer (some ⟨bX, 0, none⟩)), (14, .pointer (some ⟨bT, 0, none⟩)), (16, .int .i64 (j : Int))] ∧ Mem w w' [rl'.ent 65 37 s'.l.length (fm Ope.cellsL s'.l), ro'.ent 91 5 s'.over.length (fm End_.cellsL s'.over), rm.ent 45 24 t'.mail.length (fm msgL t'.mail), ra.ent 69 13 t'.ans.length (fm Ans.cellsL t'.ans), rs.ent 71 14 t'.seen.length (fm Seen_.cellsL t'.seen), rc.ent 40 3 t'.com.length (fm nmL t'.com), re.ent 40 3 t'.ends.length (fm nmL t'.ends), .blk bT (tolL t' rm ra rs rc re).toArray 54, .blk bX (sesL s' rl' ro').toArray 29, .blk bA (q.cellsL (.slice da q.bs.length dc) (.slice xa q.x.length xc)).toArray 47, rl.ent 65 37 s.l.length (fm Ope.cellsL s.l), ro.ent 91 5 s.over.length (fm End_.cellsL s.over), mapX bU mU2 cU2, mapX bV mO cO, mapX bB mB cB, mapX bP mC3 cC3, .blk bS (sesL s rl ro).toArray 29, .blk bF of.cellsL.toArray 22]) (t'.ans.length) ?_ ?_
    · skip
      exact ⟨0, mC1, cC1, Nat.zero_le _, rfl, hX.gC, hX.vC, S.sub _ rfl, M⟩
    clear S M a; intro m a wl
    rintro ⟨j, mC3, cC3, hj, rfl, hgC3, hvC3, S, M⟩
    refine wp_seq ?_
    refine nxD ?_
    refine st_run [1, 2, 8] S M rfl (by kernel_rfl) ?_; clear S a; intro a S
    refine st_y S rfl rfl rfl (y_lenR (E := 69) S rfl (M.readAll 3 rfl (by unfold maxLen; omega)) (by kernel_rfl)) ?_; clear S a; intro a S
    refine st_go [1] S rfl (by kernel_rfl) ?_; clear S a; intro a S
    refine nxC ?_
    refine st_if (t := 141) S rfl ?_ ?_
    · clear S; intro h141 S
      refine st_condT S rfl ?_
      refine wp_skip ?_
      refine then_normal ?_
      refine wp_seq ?_
      refine wp_block ?_
      refine wp_seq ?_
      have hjl : j < t'.ans.length := by omega
      obtain ⟨y, hy⟩ : ∃ y, t'.ans[j]? = some y := ⟨_, List.getElem?_eq_getElem hjl⟩
      have htk : t'.ans.take (j + 1) = t'.ans.take j ++ [y] := by rw [List.take_add_one, hy]; rfl
      have hAn := hDI.ans j y hy
      have hup1 : ansF f1 (t'.ans.take j) y.h ≤ 160 := by have := ansF_le f1 (t'.ans.take j) y.h; have := hX.fp y.h; have := hfb y.h; omega
      refine wp_region_lit ?_
      refine st_run [2, 8, 1] S M rfl (by kernel_rfl) ?_; clear S a; intro a S
      refine st_y S rfl rfl rfl (y_indexR (e := 69) (sz := 13) S (by kernel_rfl) rfl (M.readAll 3 rfl (by unfold maxLen; omega)) rfl (by first | omega | (simp; done) | (simp; omega))) ?_; clear S a; intro a S
      try simp only [Int.toNat_natCast, Nat.mul_one, Nat.zero_add] at S
      refine st_y S rfl rfl rfl (y_loadAgg S (by kernel_rfl) rfl rfl ((M.readAll 3 rfl (by unfold maxLen; omega)).at_.row (i := j) (fm_get len_ans hy) rfl)) ?_; clear S a; intro a S
      refine st_alloc S M rfl rfl #[.int .i64 0, .int .i64 0, .int .i64 0, .int .u8 0, .int .u8 0, .int .u8 0, .int .u8 0, .int .u8 0, .int .u8 0, .int .u8 0, .int .u8 0, .int .i64 0, .int .i8 0] (by kernel_rfl) ?_; clear S M a; intro a w38 bY S M hB
      refine st_store (sz := 13) (us := [_, _, _, _, _, _, _, _, _, _, _, _, _]) S M 0 rfl (by kernel_rfl) rfl rfl rfl rfl rfl rfl (by first | decide | (simp; done) | (simp; omega)) ?_; clear M; intro w39 M
      simp only [putL, List.set_cons_zero, List.set_cons_succ, Nat.reduceAdd] at M
      refine nxC ?_
      refine wp_seq ?_
      refine nxD ?_
      refine st_run [13, 1, 1] S M rfl (by kernel_rfl) ?_; clear S a; intro a S
      refine nxC ?_
      refine st_if (t := 151) S rfl ?_ ?_
      · clear S; intro h151 S
        refine st_condT S rfl ?_
        refine wp_exit ?_
        refine then_exit ?_
        refine block_hit ?_
        refine nxF ?_
        refine st_go [1] S rfl (by kernel_rfl) ?_; clear S a; intro a S
        (first | refine st_y S rfl rfl rfl (y_addN S rfl rfl (by omega)) ?_ | refine st_y S rfl rfl rfl (y_int S rfl rfl rfl) ?_); clear S a; intro a S
        refine st_go [1] S rfl (by kernel_rfl) ?_; clear S a; intro a S
        replace S := S.sub [(1, _), (2, _), (5, _), (7, _), (8, _), (9, _), (10, _), (11, _), (12, _), (13, _), (14, _), (141, _), (17, _), (151, _), (16, _)] rfl
        refine nxC ?_
        replace M := M.ord [18, 18, 18, 18, 18, 18, 18, 18, 18, 18, 18, 18, 18, 18, 18, 18, 18, 18] (by simp only [ordO, oG, oS, oE, oZ, oB] <;> rfl)
        replace M := M.pre 18
        first
          | exact ⟨t'.ans.length - (j + 1), by omega, j + 1, mC3, cC3, by omega, rfl, hgC3, by rw [htk, ansF_snoc]; unfold ansG; rw [if_pos (by omega)]; exact hvC3, S.sub _ rfl, M⟩
          | exact ⟨t'.ans.length - (j + 1), by omega, j + 1, _, _, by omega, rfl, hgC4, by rw [htk, ansF_snoc]; unfold ansG; rw [if_neg (by omega)]; exact hvC4, S.sub _ rfl, M⟩
      clear S; intro h151 S
      refine st_condF S rfl ?_
      refine wp_skip ?_
      refine nxE ?_
      refine st_run [1, 2, 1] S M rfl (by kernel_rfl) ?_; clear S a; intro a S
      refine st_y S rfl rfl rfl (y_lookupM (pos := 16) S M (keyN) (hgC3) Try.underlying34 (zero_i64) rfl rfl rfl) ?_; clear S a; intro a S
      simp only [Bool.false_eq_true, if_false, hvC3 y.h] at S
      have hA1 : 1 ≤ ansF f1 (List.take j t'.ans) y.h := hAn (by omega)
      (first | refine st_y S rfl rfl rfl (y_subN S rfl rfl (by omega)) ?_ | refine st_y S rfl rfl rfl (y_int S rfl rfl rfl) ?_); clear S a; intro a S
      refine st_updateM (pos := 16) S M (keyN) (hgC3) Try.underlying34 rfl rfl rfl rfl rfl ?_; clear M; intro w40 M
      simp only [List.set_cons_zero, List.set_cons_succ] at M
      replace S := S.sub [(1, _), (2, _), (5, _), (7, _), (8, _), (9, _), (10, _), (11, _), (12, _), (13, _), (14, _), (16, _), (141, _), (17, _), (151, _)] rfl
      refine nxC ?_
      refine wp_seq ?_
      have hgC4 := hgC3.put y.h (.int .i64 (ansF f1 (t'.ans.take j) y.h - 1))
      have hvC4 := hvC3.put (c := cC3) y.h (ansF f1 (t'.ans.take j) y.h - 1)
      refine wp_region_lit ?_
      refine st_run [1, 2, 1] S M rfl (by kernel_rfl) ?_; clear S a; intro a S
      refine st_y S rfl rfl rfl (y_lookupM (pos := 16) S M (keyN) (hgC4) Try.underlying34 (zero_i64) rfl rfl rfl) ?_; clear S a; intro a S
      simp only [Bool.false_eq_true, if_false, hvC4 y.h, if_true] at S
      refine st_y S rfl rfl rfl (y_int S rfl rfl rfl) ?_; clear S a; intro a S
      refine nxC ?_
      refine st_if (t := 161) S rfl ?_ ?_
      · clear S; intro h161 S
        refine st_condT S rfl ?_
        refine nxD ?_
        refine st_go [1] S rfl (by kernel_rfl) ?_; clear S a; intro a S
        refine nxC ?_
        refine wp_ret ?_
        refine block_ret ?_
        refine then_ret ?_
        refine then_ret ?_
        refine block_ret ?_
        refine then_ret ?_
        refine block_ret ?_
        refine then_ret ?_
        refine then_ret ?_
        refine block_ret ?_
        refine then_ret ?_
        refine end_one S rfl (res_tmp rfl) ?_
        first
          | exact ⟨rfl, M.below⟩
          | (exfalso; omega)
          | (exfalso; rcases hcase with ⟨h1, h2, h3⟩ | ⟨h1, h2⟩ <;> simp_all)
      clear S; intro h161 S
      refine st_condF S rfl ?_
      refine wp_skip ?_
      refine block_normal ?_
      refine nxF ?_
      refine st_go [1] S rfl (by kernel_rfl) ?_; clear S a; intro a S
      (first | refine st_y S rfl rfl rfl (y_addN S rfl rfl (by omega)) ?_ | refine st_y S rfl rfl rfl (y_int S rfl rfl rfl) ?_); clear S a; intro a S
      refine st_go [1] S rfl (by kernel_rfl) ?_; clear S a; intro a S
      refine nxC ?_
      replace M := M.ord [18, 18, 18, 18, 18, 18, 18, 18, 18, 18, 18, 18, 18, 18, 18, 18, 18, 18] (by simp only [ordO, oG, oS, oE, oZ, oB] <;> rfl)
      replace M := M.pre 18
      first
        | exact ⟨t'.ans.length - (j + 1), by omega, j + 1, mC3, cC3, by omega, rfl, hgC3, by rw [htk, ansF_snoc]; unfold ansG; rw [if_pos (by omega)]; exact hvC3, S.sub _ rfl, M⟩
        | exact ⟨t'.ans.length - (j + 1), by omega, j + 1, _, _, by omega, rfl, hgC4, by rw [htk, ansF_snoc]; unfold ansG; rw [if_neg (by omega)]; exact hvC4, S.sub _ rfl, M⟩
    clear S; intro h141 S
    refine st_condF S rfl ?_
    refine wp_exit ?_
    refine then_exit ?_
    refine then_exit ?_
    refine block_hit ?_
    refine then_normal ?_
    refine wp_seq ?_
    refine wp_seq ?_
    have hja : t'.ans.take j = t'.ans := List.take_of_length_le (by omega)
    rw [hja] at hvC3
    refine wp_region_lit ?_
    refine st_go [1] S rfl (by kernel_rfl) ?_; clear S a; intro a S
    refine nxC ?_
    refine wp_block ?_
    refine wp_loop_g (fun m a w' => ∃ (j : Nat) (mO3 : Mes Nm) (cO3 : Nat) (mB3 : Mes Nm) (cB3 : Nat), j ≤ t'.seen.length ∧ m = t'.seen.length - j ∧ Good encNm mO3 cO3 ∧ CVO mO3 (seenO O (t'.seen.take j)) ∧ Good encNm mB3 cB3 ∧ CVB mB3 (seenB B (t'.seen.take j)) ∧ Sees 266 a [(1, .slice va l.length vc), (2, .pointer (some ⟨bF, 0, none⟩)), (5, .pointer (some ⟨bS, 0, none⟩)), (7, .map (some bP)), (8, .map (some bV)), (9, .map (some bB)), (10, .map (some bU)), (11, .int .i64 (k : Int)), (12, .pointer (some ⟨bA, 0, none⟩)), (13, .pointer (some ⟨bX, 0, none⟩)), (14, .pointer (some ⟨bT, 0, none⟩)), (18, .int .i64 (j : Int))] ∧ Mem w w' [rl'.ent 65 37 s'.l.length (fm Ope.cellsL s'.l), ro'.ent 91 5 s'.over.length (fm End_.cellsL s'.over), rm.ent 45 24 t'.mail.length (fm msgL t'.mail), ra.ent 69 13 t'.ans.length (fm Ans.cellsL t'.ans), rs.ent 71 14 t'.seen.length (fm Seen_.cellsL t'.seen), rc.ent 40 3 t'.com.length (fm nmL t'.com), re.ent 40 3 t'.ends.length (fm nmL t'.ends), .blk bT (tolL t' rm ra rs rc re).toArray 54, .blk bX (sesL s' rl' ro').toArray 29, .blk bA (q.cellsL (.slice da q.bs.length dc) (.slice xa q.x.length xc)).toArray 47, rl.ent 65 37 s.l.length (fm Ope.cellsL s.l), ro.ent 91 5 s.over.length (fm End_.cellsL s.over), mapX bU mU2 cU2, mapX bV mO3 cO3, mapX bB mB3 cB3, mapX bP mC3 cC3, .blk bS (sesL s rl ro).toArray 29, .blk bF of.cellsL.toArray 22]) (t'.seen.length) ?_ ?_
    · skip
      exact ⟨0, mO, cO, mB, cB, Nat.zero_le _, rfl, hI.gO, by simpa [seenO] using hI.vO, hI.gB, by simpa [seenB] using hI.vB, S.sub _ rfl, M⟩
    clear S M a; intro m a wl
    rintro ⟨j, mO3, cO3, mB3, cB3, hj, rfl, hgO3, hvO3, hgB3, hvB3, S, M⟩
    refine wp_seq ?_
    refine nxD ?_
    refine st_run [1, 3, 8] S M rfl (by kernel_rfl) ?_; clear S a; intro a S
    refine st_y S rfl rfl rfl (y_lenR (E := 71) S rfl (M.readAll 4 rfl (by unfold maxLen; omega)) (by kernel_rfl)) ?_; clear S a; intro a S
    refine st_go [1] S rfl (by kernel_rfl) ?_; clear S a; intro a S
    refine nxC ?_
    refine st_fi (t := 166) S rfl ?_ ?_
    · clear S; intro h166 S
      refine st_condF S rfl ?_
      refine wp_exit ?_
      refine then_exit ?_
      refine then_exit ?_
      refine block_hit ?_
      refine then_normal ?_
      refine wp_seq ?_
      refine wp_seq ?_
      have hjs : t'.seen.take j = t'.seen := List.take_of_length_le (by omega)
      rw [hjs] at hvO3 hvB3
      refine wp_region_lit ?_
      refine st_go [1] S rfl (by kernel_rfl) ?_; clear S a; intro a S
      refine nxC ?_
      refine wp_block ?_
      refine wp_loop_g (fun m a w' => ∃ (j : Nat), j ≤ t'.mail.length ∧ m = t'.mail.length - j ∧ Sees 266 a [(1, .slice va l.length vc), (2, .pointer (some ⟨bF, 0, none⟩)), (5, .pointer (some ⟨bS, 0, none⟩)), (7, .map (some bP)), (8, .map (some bV)), (9, .map (some bB)), (10, .map (some bU)), (11, .int .i64 (k : Int)), (12, .pointer (some ⟨bA, 0, none⟩)), (13, .pointer (some ⟨bX, 0, none⟩)), (14, .pointer (some ⟨bT, 0, none⟩)), (22, .int .i64 (j : Int))] ∧ Mem w w' [rl'.ent 65 37 s'.l.length (fm Ope.cellsL s'.l), ro'.ent 91 5 s'.over.length (fm End_.cellsL s'.over), rm.ent 45 24 t'.mail.length (fm msgL t'.mail), ra.ent 69 13 t'.ans.length (fm Ans.cellsL t'.ans), rs.ent 71 14 t'.seen.length (fm Seen_.cellsL t'.seen), rc.ent 40 3 t'.com.length (fm nmL t'.com), re.ent 40 3 t'.ends.length (fm nmL t'.ends), .blk bT (tolL t' rm ra rs rc re).toArray 54, .blk bX (sesL s' rl' ro').toArray 29, .blk bA (q.cellsL (.slice da q.bs.length dc) (.slice xa q.x.length xc)).toArray 47, rl.ent 65 37 s.l.length (fm Ope.cellsL s.l), ro.ent 91 5 s.over.length (fm End_.cellsL s.over), mapX bU mU2 cU2, mapX bV mO3 cO3, mapX bB mB3 cB3, mapX bP mC3 cC3, .blk bS (sesL s rl ro).toArray 29, .blk bF of.cellsL.toArray 22]) (t'.mail.length) ?_ ?_
      · skip
        exact ⟨0, Nat.zero_le _, rfl, S.sub _ rfl, M⟩
      clear S M a; intro m a wl
      rintro ⟨j, hj, rfl, S, M⟩
      refine wp_seq ?_
      refine nxD ?_
      refine st_run [1, 1, 8] S M rfl (by kernel_rfl) ?_; clear S a; intro a S
      refine st_y S rfl rfl rfl (y_lenR (E := 45) S rfl (M.readAll 2 rfl (by unfold maxLen; omega)) (by kernel_rfl)) ?_; clear S a; intro a S
      refine st_go [1] S rfl (by kernel_rfl) ?_; clear S a; intro a S
      refine nxC ?_
      refine st_fi (t := 225) S rfl ?_ ?_
      · clear S; intro h225 S
        refine st_condF S rfl ?_
        refine wp_exit ?_
        refine then_exit ?_
        refine then_exit ?_
        refine block_hit ?_
        refine then_normal ?_
        refine wp_seq ?_
        refine nxD ?_
        refine st_y S rfl rfl rfl (y_loadAgg (cs := [_, _, _, _]) S (by kernel_rfl) rfl rfl (M.cellsAt (k := 4) 8 rfl rfl)) ?_; clear S a; intro a S
        refine st_call (xs := [(Operand.tmp 261)]) S (enters_of Try.func16 (by decide) rfl) rfl rfl rfl (check_any s' rl'.a ro'.a rl'.c ro'.c _ (M.readAll 0 rfl (by unfold maxLen; omega)) (M.readAll 1 rfl (by unfold maxLen; omega)) hw2.shok) ?_
        rintro _ w67 ⟨rk, rfl, hK, hrk⟩
        obtain rfl : rk = 0 := by
          rcases hrk with ⟨h, -⟩ | ⟨-, h⟩
          · exact h
          · exact absurd hw2.toMay h
        refine ⟨_, rfl, ?_⟩; clear S a; intro a S; replace M := M.grow hK
        refine st_go [1] S rfl (by kernel_rfl) ?_; clear S a; intro a S
        refine nxC ?_
        refine st_if (t := 263) S rfl ?_ ?_
        · clear S; intro h263 S
          exfalso; omega
        clear S; intro h263 S
        refine st_condF S rfl ?_
        refine wp_skip ?_
        refine then_normal ?_
        skip
        refine wp_region_lit ?_
        refine st_y S rfl rfl rfl (y_loadAgg (cs := [_, _, _, _]) S (by kernel_rfl) rfl rfl (M.cellsAt (k := 4) 8 rfl rfl)) ?_; clear S a; intro a S
        refine st_store (sz := 4) (us := [_, _, _, _]) S M 16 rfl (by kernel_rfl) rfl rfl rfl rfl rfl rfl (by first | decide | (simp; done) | (simp; omega)) ?_; clear M; intro w68 M
        simp only [putL, List.set_cons_zero, List.set_cons_succ, Nat.reduceAdd] at M
        refine wpList_nil ?_
        refine block_normal ?_
        refine then_normal ?_
        replace M := M.ord [17, 17, 17, 17, 17, 17, 7, 7] (by simp only [ordO, oG, oS, oE, oZ, oB] <;> rfl)
        replace M := M.pre 8
        first
          | exact ⟨s, rl, ro, of, f, B, O, u2, mC, cC, mO, cO, mB, cB, mU2, cU2, hI.keep hup hgU hvU (fun z => by omega) hI.gC hI.vC (hSI.mono fun z => (hup z).1), S.sub _ rfl, M⟩
          | exact ⟨s, rl, ro, q.of, f, B, O, u2, mC, cC, mO, cO, mB, cB, mU2, cU2, hI.keep hup hgU hvU (fun z => by omega) hI.gC hI.vC (hSI.mono fun z => (hup z).1), S.sub _ rfl, M⟩
          | exact ⟨s, rl, ro, of, f1, B, O, u2, mC1, cC1, mO, cO, mB, cB, mU2, cU2, hI.keep hX.up hX.gU hX.vU hX.fp hX.gC hX.vC hX.si, S.sub _ rfl, M⟩
          | exact ⟨s', rl', ro', of, _, _, _, u2, mC3, cC3, mO3, cO3, mB3, cB3, mU2, cU2, hI.next hX he hgC3 hvC3 hgO3 hvO3 hgB3 hvB3, S.sub _ rfl, M⟩
      clear S; intro h225 S
      refine st_condT S rfl ?_
      refine wp_skip ?_
      refine then_normal ?_
      refine wp_seq ?_
      refine wp_block ?_
      refine wp_seq ?_
      have hjl : j < t'.mail.length := by omega
      obtain ⟨y, hy⟩ : ∃ y, t'.mail[j]? = some y := ⟨_, List.getElem?_eq_getElem hjl⟩
      have hsent := hDI.sent (List.mem_of_getElem? hy)
      obtain ⟨v, hov, hcase⟩ : ∃ v : Int, (getM mO3 y.name).getD (.int .i64 0) = .int .i64 v ∧ ((v = 1 ∧ y.kind = 6 ∧ y.yes = false) ∨ (v = 0 ∧ (s'.l.any fun o => o.nm.eqb y.name) = true)) := by
        by_cases hin : y.name ∈ seenO O t'.seen
        · exact ⟨1, by rw [hvO3 y.name, if_pos hin], .inl ⟨rfl, hsent.1 hin⟩⟩
        · obtain ⟨o, ho, e⟩ := hsent.2 hin
          exact ⟨0, by rw [hvO3 y.name, if_neg hin], .inr ⟨rfl, List.any_eq_true.2 ⟨o, ho, Nm.eqb_iff.2 e⟩⟩⟩
      refine wp_region_lit ?_
      refine st_run [1, 8, 1] S M rfl (by kernel_rfl) ?_; clear S a; intro a S
      refine st_y S rfl rfl rfl (y_indexR (e := 45) (sz := 24) S (by kernel_rfl) rfl (M.readAll 2 rfl (by unfold maxLen; omega)) rfl (by first | omega | (simp; done) | (simp; omega))) ?_; clear S a; intro a S
      try simp only [Int.toNat_natCast, Nat.mul_one, Nat.zero_add] at S
      refine st_y S rfl rfl rfl (y_loadAgg S (by kernel_rfl) rfl rfl ((M.readAll 2 rfl (by unfold maxLen; omega)).at_.row (i := j) (fm_get len_msg hy) rfl)) ?_; clear S a; intro a S
      refine st_alloc S M rfl rfl #[.int .i8 0, .int .i64 0, .int .i64 0, .int .i64 0, .int .i64 0, .int .i64 0, .int .i64 0, .int .i64 0, .int .i64 0, .int .i8 0, .int .i64 0, .int .u8 0, .int .u8 0, .int .u8 0, .int .u8 0, .int .u8 0, .int .u8 0, .int .u8 0, .int .u8 0, .int .i64 0, .bool false, .int .i64 0, .int .i64 0, .slice none 0 0] (by kernel_rfl) ?_; clear S M a; intro a w63 bY S M hB
      refine st_store (sz := 24) (us := [_, _, _, _, _, _, _, _, _, _, _, _, _, _, _, _, _, _, _, _, _, _, _, _]) S M 0 rfl (by kernel_rfl) rfl rfl rfl rfl rfl rfl (by first | decide | (simp; done) | (simp; omega)) ?_; clear M; intro w64 M
      simp only [putL, List.set_cons_zero, List.set_cons_succ, Nat.reduceAdd] at M
      refine nxA ?_
      refine st_go [1, 6] S rfl (by kernel_rfl) ?_; clear S a; intro a S
      refine st_y S rfl rfl rfl (y_loadAgg (cs := [_, _, _]) S (by kernel_rfl) rfl rfl (M.cellsAt (k := 3) 0 rfl rfl)) ?_; clear S a; intro a S
      refine st_y S rfl rfl rfl (y_lookupM (pos := 14) S M (keyNm) (hgO3) (k := y.name) Try.underlying67 (zero_i64) rfl rfl rfl) ?_; clear S a; intro a S
      simp only [Bool.false_eq_true, if_false, hov] at S
      refine st_y S rfl rfl rfl (y_int S rfl rfl rfl) ?_; clear S a; intro a S
      refine st_go [1] S rfl (by kernel_rfl) ?_; clear S a; intro a S
      refine st_fi (t := 238) S rfl ?_ ?_
      · clear S; intro h238 S
        refine st_go [0, 0, 0, 0, 0, 0, 0, 1, 1, 1, 6] S rfl (by kernel_rfl) ?_; clear S a; intro a S
        refine st_y S rfl rfl rfl (y_loadAgg (cs := [_, _, _]) S (by kernel_rfl) rfl rfl (M.cellsAt (k := 3) 0 rfl rfl)) ?_; clear S a; intro a S
        refine st_y S rfl rfl rfl (y_lookupM (pos := 14) S M (keyNm) (hgO3) (k := y.name) Try.underlying67 (zero_i64) rfl rfl rfl) ?_; clear S a; intro a S
        simp only [Bool.false_eq_true, if_false, hov] at S
        refine st_y S rfl rfl rfl (y_int S rfl rfl rfl) ?_; clear S a; intro a S
        refine st_go [1] S rfl (by kernel_rfl) ?_; clear S a; intro a S
        refine st_fi (t := 253) S rfl ?_ ?_
        · clear S; intro h253 S
          refine st_go [0, 0, 0, 0, 0, 1, 1] S rfl (by kernel_rfl) ?_; clear S a; intro a S
          replace S := S.sub [(1, _), (2, _), (5, _), (7, _), (8, _), (9, _), (10, _), (11, _), (12, _), (13, _), (14, _), (22, _), (225, _), (23, _), (260, _)] rfl
          refine nxC ?_
          refine st_condF S rfl ?_
          refine wp_skip ?_
          refine block_normal ?_
          refine nxF ?_
          refine st_go [1] S rfl (by kernel_rfl) ?_; clear S a; intro a S
          (first | refine st_y S rfl rfl rfl (y_addN S rfl rfl (by omega)) ?_ | refine st_y S rfl rfl rfl (y_int S rfl rfl rfl) ?_); clear S a; intro a S
          refine st_go [1] S rfl (by kernel_rfl) ?_; clear S a; intro a S
          refine nxC ?_
          replace M := M.ord [18, 18, 18, 18, 18, 18, 18, 18, 18, 18, 18, 18, 18, 18, 18, 18, 18, 18] (by simp only [ordO, oG, oS, oE, oZ, oB] <;> rfl)
          replace M := M.pre 18
          exact ⟨t'.mail.length - (j + 1), by omega, j + 1, by omega, rfl, S.sub _ rfl, M⟩
        clear S; intro h253 S
        refine st_y S rfl rfl rfl (y_loadAgg (cs := [_, _, _, _]) S (by kernel_rfl) rfl rfl (M.cellsAt (k := 4) 9 rfl rfl)) ?_; clear S a; intro a S
        refine st_go [6] S rfl (by kernel_rfl) ?_; clear S a; intro a S
        refine st_y S rfl rfl rfl (y_loadAgg (cs := [_, _, _]) S (by kernel_rfl) rfl rfl (M.cellsAt (k := 3) 0 rfl rfl)) ?_; clear S a; intro a S
        refine st_call (xs := [(Operand.tmp 254), (Operand.tmp 256)]) S (enters_of Try.func15 (by decide) rfl) rfl rfl rfl (has_any rl'.a rl'.c s'.l s'.last s'.inc (ro'.v s'.over.length) y.name _ (M.readAll 1 rfl (by unfold maxLen; omega)) ⟨_, _, _, rfl⟩) ?_
        rintro _ w66 ⟨rfl, hK⟩; refine ⟨_, rfl, ?_⟩; clear S a; intro a S; replace M := M.grow hK
        refine st_go [1, 1, 1] S rfl (by kernel_rfl) ?_; clear S a; intro a S
        replace S := S.sub [(1, _), (2, _), (5, _), (7, _), (8, _), (9, _), (10, _), (11, _), (12, _), (13, _), (14, _), (22, _), (225, _), (23, _), (260, _)] rfl
        refine nxC ?_
        refine st_fi (t := 260) S rfl ?_ ?_
        · clear S; intro h260 S
          refine st_condF S rfl ?_
          refine wp_skip ?_
          refine block_normal ?_
          refine nxF ?_
          refine st_go [1] S rfl (by kernel_rfl) ?_; clear S a; intro a S
          (first | refine st_y S rfl rfl rfl (y_addN S rfl rfl (by omega)) ?_ | refine st_y S rfl rfl rfl (y_int S rfl rfl rfl) ?_); clear S a; intro a S
          refine st_go [1] S rfl (by kernel_rfl) ?_; clear S a; intro a S
          refine nxC ?_
          replace M := M.ord [18, 18, 18, 18, 18, 18, 18, 18, 18, 18, 18, 18, 18, 18, 18, 18, 18, 18] (by simp only [ordO, oG, oS, oE, oZ, oB] <;> rfl)
          replace M := M.pre 18
          exact ⟨t'.mail.length - (j + 1), by omega, j + 1, by omega, rfl, S.sub _ rfl, M⟩
        clear S; intro h260 S
        refine st_condT S rfl ?_
        refine nxD ?_
        refine st_go [1] S rfl (by kernel_rfl) ?_; clear S a; intro a S
        refine nxC ?_
        refine wp_ret ?_
        refine block_ret ?_
        refine then_ret ?_
        refine then_ret ?_
        refine block_ret ?_
        refine then_ret ?_
        refine block_ret ?_
        refine then_ret ?_
        refine then_ret ?_
        refine block_ret ?_
        refine then_ret ?_
        refine end_one S rfl (res_tmp rfl) ?_
        first
          | exact ⟨rfl, M.below⟩
          | (exfalso; omega)
          | (exfalso; rcases hcase with ⟨h1, h2, h3⟩ | ⟨h1, h2⟩ <;> simp_all)
      clear S; intro h238 S
      refine st_run [1, 1, 1, 1] S M rfl (by kernel_rfl) ?_; clear S a; intro a S
      refine st_if (t := 242) S rfl ?_ ?_
      · clear S; intro h242 S
        refine st_go [0, 0, 1, 1, 1, 0, 0, 0, 0] S rfl (by kernel_rfl) ?_; clear S a; intro a S
        refine st_no S rfl rfl rfl ?_; clear S a; intro a S
        refine st_go [0, 0, 0, 0, 0, 0, 0, 1] S rfl (by kernel_rfl) ?_; clear S a; intro a S
        replace S := S.sub [(1, _), (2, _), (5, _), (7, _), (8, _), (9, _), (10, _), (11, _), (12, _), (13, _), (14, _), (22, _), (225, _), (23, _), (260, _)] rfl
        refine nxC ?_
        refine st_condT S rfl ?_
        refine nxD ?_
        refine st_go [1] S rfl (by kernel_rfl) ?_; clear S a; intro a S
        refine nxC ?_
        refine wp_ret ?_
        refine block_ret ?_
        refine then_ret ?_
        refine then_ret ?_
        refine block_ret ?_
        refine then_ret ?_
        refine block_ret ?_
        refine then_ret ?_
        refine then_ret ?_
        refine block_ret ?_
        refine then_ret ?_
        refine end_one S rfl (res_tmp rfl) ?_
        first
          | exact ⟨rfl, M.below⟩
          | (exfalso; omega)
          | (exfalso; rcases hcase with ⟨h1, h2, h3⟩ | ⟨h1, h2⟩ <;> simp_all)
      clear S; intro h242 S
      refine st_run [21, 1, 1, 1, 1] S M rfl (by kernel_rfl) ?_; clear S a; intro a S
      refine st_if (t := 247) S rfl ?_ ?_
      · clear S; intro h247 S
        refine st_go [0, 0, 0, 0] S rfl (by kernel_rfl) ?_; clear S a; intro a S
        refine st_no S rfl rfl rfl ?_; clear S a; intro a S
        refine st_go [0, 0, 0, 0, 0, 0, 0, 1] S rfl (by kernel_rfl) ?_; clear S a; intro a S
        replace S := S.sub [(1, _), (2, _), (5, _), (7, _), (8, _), (9, _), (10, _), (11, _), (12, _), (13, _), (14, _), (22, _), (225, _), (23, _), (260, _)] rfl
        refine nxC ?_
        refine st_condT S rfl ?_
        refine nxD ?_
        refine st_go [1] S rfl (by kernel_rfl) ?_; clear S a; intro a S
        refine nxC ?_
        refine wp_ret ?_
        refine block_ret ?_
        refine then_ret ?_
        refine then_ret ?_
        refine block_ret ?_
        refine then_ret ?_
        refine block_ret ?_
        refine then_ret ?_
        refine then_ret ?_
        refine block_ret ?_
        refine then_ret ?_
        refine end_one S rfl (res_tmp rfl) ?_
        first
          | exact ⟨rfl, M.below⟩
          | (exfalso; omega)
          | (exfalso; rcases hcase with ⟨h1, h2, h3⟩ | ⟨h1, h2⟩ <;> simp_all)
      clear S; intro h247 S
      refine st_go [1, 6] S rfl (by kernel_rfl) ?_; clear S a; intro a S
      refine st_y S rfl rfl rfl (y_loadAgg (cs := [_, _, _]) S (by kernel_rfl) rfl rfl (M.cellsAt (k := 3) 0 rfl rfl)) ?_; clear S a; intro a S
      refine st_y S rfl rfl rfl (y_lookupM (pos := 14) S M (keyNm) (hgO3) (k := y.name) Try.underlying67 (zero_i64) rfl rfl rfl) ?_; clear S a; intro a S
      simp only [Bool.false_eq_true, if_false, hov] at S
      refine st_y S rfl rfl rfl (y_int S rfl rfl rfl) ?_; clear S a; intro a S
      refine st_go [1] S rfl (by kernel_rfl) ?_; clear S a; intro a S
      refine st_fi (t := 253) S rfl ?_ ?_
      · clear S; intro h253 S
        refine st_go [0, 0, 0, 0, 0, 1, 1] S rfl (by kernel_rfl) ?_; clear S a; intro a S
        replace S := S.sub [(1, _), (2, _), (5, _), (7, _), (8, _), (9, _), (10, _), (11, _), (12, _), (13, _), (14, _), (22, _), (225, _), (23, _), (260, _)] rfl
        refine nxC ?_
        refine st_condF S rfl ?_
        refine wp_skip ?_
        refine block_normal ?_
        refine nxF ?_
        refine st_go [1] S rfl (by kernel_rfl) ?_; clear S a; intro a S
        (first | refine st_y S rfl rfl rfl (y_addN S rfl rfl (by omega)) ?_ | refine st_y S rfl rfl rfl (y_int S rfl rfl rfl) ?_); clear S a; intro a S
        refine st_go [1] S rfl (by kernel_rfl) ?_; clear S a; intro a S
        refine nxC ?_
        replace M := M.ord [18, 18, 18, 18, 18, 18, 18, 18, 18, 18, 18, 18, 18, 18, 18, 18, 18, 18] (by simp only [ordO, oG, oS, oE, oZ, oB] <;> rfl)
        replace M := M.pre 18
        exact ⟨t'.mail.length - (j + 1), by omega, j + 1, by omega, rfl, S.sub _ rfl, M⟩
      clear S; intro h253 S
      refine st_y S rfl rfl rfl (y_loadAgg (cs := [_, _, _, _]) S (by kernel_rfl) rfl rfl (M.cellsAt (k := 4) 9 rfl rfl)) ?_; clear S a; intro a S
      refine st_go [6] S rfl (by kernel_rfl) ?_; clear S a; intro a S
      refine st_y S rfl rfl rfl (y_loadAgg (cs := [_, _, _]) S (by kernel_rfl) rfl rfl (M.cellsAt (k := 3) 0 rfl rfl)) ?_; clear S a; intro a S
      refine st_call (xs := [(Operand.tmp 254), (Operand.tmp 256)]) S (enters_of Try.func15 (by decide) rfl) rfl rfl rfl (has_any rl'.a rl'.c s'.l s'.last s'.inc (ro'.v s'.over.length) y.name _ (M.readAll 1 rfl (by unfold maxLen; omega)) ⟨_, _, _, rfl⟩) ?_
      rintro _ w65 ⟨rfl, hK⟩; refine ⟨_, rfl, ?_⟩; clear S a; intro a S; replace M := M.grow hK
      refine st_go [1, 1, 1] S rfl (by kernel_rfl) ?_; clear S a; intro a S
      replace S := S.sub [(1, _), (2, _), (5, _), (7, _), (8, _), (9, _), (10, _), (11, _), (12, _), (13, _), (14, _), (22, _), (225, _), (23, _), (260, _)] rfl
      refine nxC ?_
      refine st_fi (t := 260) S rfl ?_ ?_
      · clear S; intro h260 S
        refine st_condF S rfl ?_
        refine wp_skip ?_
        refine block_normal ?_
        refine nxF ?_
        refine st_go [1] S rfl (by kernel_rfl) ?_; clear S a; intro a S
        (first | refine st_y S rfl rfl rfl (y_addN S rfl rfl (by omega)) ?_ | refine st_y S rfl rfl rfl (y_int S rfl rfl rfl) ?_); clear S a; intro a S
        refine st_go [1] S rfl (by kernel_rfl) ?_; clear S a; intro a S
        refine nxC ?_
        replace M := M.ord [18, 18, 18, 18, 18, 18, 18, 18, 18, 18, 18, 18, 18, 18, 18, 18, 18, 18] (by simp only [ordO, oG, oS, oE, oZ, oB] <;> rfl)
        replace M := M.pre 18
        exact ⟨t'.mail.length - (j + 1), by omega, j + 1, by omega, rfl, S.sub _ rfl, M⟩
      clear S; intro h260 S
      refine st_condT S rfl ?_
      refine nxD ?_
      refine st_go [1] S rfl (by kernel_rfl) ?_; clear S a; intro a S
      refine nxC ?_
      refine wp_ret ?_
      refine block_ret ?_
      refine then_ret ?_
      refine then_ret ?_
      refine block_ret ?_
      refine then_ret ?_
      refine block_ret ?_
      refine then_ret ?_
      refine then_ret ?_
      refine block_ret ?_
      refine then_ret ?_
      refine end_one S rfl (res_tmp rfl) ?_
      first
        | exact ⟨rfl, M.below⟩
        | (exfalso; omega)
        | (exfalso; rcases hcase with ⟨h1, h2, h3⟩ | ⟨h1, h2⟩ <;> simp_all)
    clear S; intro h166 S
    refine st_condT S rfl ?_
    refine wp_skip ?_
    refine then_normal ?_
    refine wp_seq ?_
    refine wp_block ?_
    refine wp_seq ?_
    have hjl : j < t'.seen.length := by omega
    obtain ⟨y, hy⟩ : ∃ y, t'.seen[j]? = some y := ⟨_, List.getElem?_eq_getElem hjl⟩
    have htk : t'.seen.take (j + 1) = t'.seen.take j ++ [y] := by rw [List.take_add_one, hy]; rfl
    have hsn := hDI.seen j y hy
    have hth : decide (y.nm ∈ mB3.map (·.1)) = !decide (y.kind = 0) := by
      by_cases h0 : y.kind = 0
      · rw [decide_eq_true h0, decide_eq_false (fun h => hsn.1 h0 ((hvB3 _).1 h))]; rfl
      · rw [decide_eq_false h0, decide_eq_true ((hvB3 _).2 (hsn.2 h0).1)]; rfl
    have hno : ¬ y.kind = 0 → (getM mO3 y.nm).getD (.int .i64 0) = .int .i64 0 := fun h0 => by rw [hvO3 y.nm, if_neg (hsn.2 h0).2]
    refine wp_region_lit ?_
    refine st_run [3, 8, 1] S M rfl (by kernel_rfl) ?_; clear S a; intro a S
    refine st_y S rfl rfl rfl (y_indexR (e := 71) (sz := 14) S (by kernel_rfl) rfl (M.readAll 4 rfl (by unfold maxLen; omega)) rfl (by first | omega | (simp; done) | (simp; omega))) ?_; clear S a; intro a S
    try simp only [Int.toNat_natCast, Nat.mul_one, Nat.zero_add] at S
    refine st_y S rfl rfl rfl (y_loadAgg S (by kernel_rfl) rfl rfl ((M.readAll 4 rfl (by unfold maxLen; omega)).at_.row (i := j) (fm_get len_seen hy) rfl)) ?_; clear S a; intro a S
    refine st_alloc S M rfl rfl #[.int .i8 0, .int .i64 0, .int .i64 0, .int .i64 0, .int .i64 0, .int .u8 0, .int .u8 0, .int .u8 0, .int .u8 0, .int .u8 0, .int .u8 0, .int .u8 0, .int .u8 0, .int .i64 0] (by kernel_rfl) ?_; clear S M a; intro a w41 bZ S M hB
    refine st_store (sz := 14) (us := [_, _, _, _, _, _, _, _, _, _, _, _, _, _]) S M 0 rfl (by kernel_rfl) rfl rfl rfl rfl rfl rfl (by first | decide | (simp; done) | (simp; omega)) ?_; clear M; intro w42 M
    simp only [putL, List.set_cons_zero, List.set_cons_succ, Nat.reduceAdd] at M
    refine nxA ?_
    refine st_go [1, 2] S rfl (by kernel_rfl) ?_; clear S a; intro a S
    refine st_y S rfl rfl rfl (y_loadAgg (cs := [_, _, _]) S (by kernel_rfl) rfl rfl (M.cellsAt (k := 3) 0 rfl rfl)) ?_; clear S a; intro a S
    refine st_y S rfl rfl rfl (y_lookupM (pos := 15) S M (keyNm) (hgB3) (k := y.nm) Try.underlying67 (zero_i64) rfl rfl rfl) ?_; clear S a; intro a S
    simp only [if_true, hth] at S
    refine st_y S rfl rfl rfl (y_move S rfl) ?_; clear S a; intro a S
    refine st_go [1, 1, 1, 1] S rfl (by kernel_rfl) ?_; clear S a; intro a S
    replace S := S.sub [(1, _), (2, _), (5, _), (7, _), (8, _), (9, _), (10, _), (11, _), (12, _), (13, _), (14, _), (18, _), (166, _), (19, _), (21, _)] rfl
    refine nxC ?_
    refine wp_seq ?_
    refine nxD ?_
    refine st_run [1, 1, 1, 1] S M rfl (by kernel_rfl) ?_; clear S a; intro a S
    refine st_fi (t := 184) S rfl ?_ ?_
    · clear S; intro h184 S
      refine st_run [0, 1, 1, 1, 1, 1, 1] S M rfl (by kernel_rfl) ?_; clear S a; intro a S
      refine st_fi (t := 191) S rfl ?_ ?_
      · clear S; intro h191 S
        refine st_go [0, 0, 0, 0, 0, 0, 0] S rfl (by kernel_rfl) ?_; clear S a; intro a S
        refine st_no S rfl rfl rfl ?_; clear S a; intro a S
        refine st_go [0, 1, 1] S rfl (by kernel_rfl) ?_; clear S a; intro a S
        replace S := S.sub [(1, _), (2, _), (5, _), (7, _), (8, _), (9, _), (10, _), (11, _), (12, _), (13, _), (14, _), (18, _), (166, _), (19, _), (21, _), (202, _)] rfl
        refine nxC ?_
        refine st_condF S rfl ?_
        refine wp_skip ?_
        refine then_normal ?_
        refine wp_seq ?_
        refine nxD ?_
        refine st_run [1, 1, 1] S M rfl (by kernel_rfl) ?_; clear S a; intro a S
        refine nxC ?_
        refine st_fi (t := 205) S rfl ?_ ?_
        · clear S; intro h205 S
          refine st_condF S rfl ?_
          refine wp_skip ?_
          refine nxE ?_
          refine st_run [1, 1, 1] S M rfl (by kernel_rfl) ?_; clear S a; intro a S
          refine nxC ?_
          refine st_fi (t := 213) S rfl ?_ ?_
          · clear S; intro h213 S
            refine st_condF S rfl ?_
            refine wp_skip ?_
            refine block_normal ?_
            refine nxF ?_
            refine st_go [1] S rfl (by kernel_rfl) ?_; clear S a; intro a S
            (first | refine st_y S rfl rfl rfl (y_addN S rfl rfl (by omega)) ?_ | refine st_y S rfl rfl rfl (y_int S rfl rfl rfl) ?_); clear S a; intro a S
            refine st_go [1] S rfl (by kernel_rfl) ?_; clear S a; intro a S
            refine nxC ?_
            replace M := M.ord [18, 18, 18, 18, 18, 18, 18, 18, 18, 18, 18, 18, 18, 18, 18, 18, 18, 18] (by simp only [ordO, oG, oS, oE, oZ, oB] <;> rfl)
            replace M := M.pre 18
            have hB0 : y.kind = 0 → seenB B (t'.seen.take (j + 1)) = seenB B (t'.seen.take j) ++ [y.nm] := fun h => by rw [htk, seenB_snoc, if_pos h]
            have hB1 : ¬ y.kind = 0 → seenB B (t'.seen.take (j + 1)) = seenB B (t'.seen.take j) := fun h => by rw [htk, seenB_snoc, if_neg h]
            have hO0 : y.kind = 4 → seenO O (t'.seen.take (j + 1)) = seenO O (t'.seen.take j) ++ [y.nm] := fun h => by rw [htk, seenO_snoc, if_pos h]
            have hO1 : ¬ y.kind = 4 → seenO O (t'.seen.take (j + 1)) = seenO O (t'.seen.take j) := fun h => by rw [htk, seenO_snoc, if_neg h]
            first
              | exact ⟨t'.seen.length - (j + 1), by omega, j + 1, mO3, cO3, _, _, by omega, rfl, hgO3, by rw [hO1 (by omega)]; exact hvO3, hgB3.put y.nm (.int .i64 s'.last), by rw [hB0 (by omega)]; exact hvB3.put y.nm _, S.sub _ rfl, M⟩
              | exact ⟨t'.seen.length - (j + 1), by omega, j + 1, _, _, mB3, cB3, by omega, rfl, hgO3.put y.nm (.int .i64 1), by rw [hO0 (by omega)]; exact hvO3.put y.nm, hgB3, by rw [hB1 (by omega)]; exact hvB3, S.sub _ rfl, M⟩
              | exact ⟨t'.seen.length - (j + 1), by omega, j + 1, mO3, cO3, mB3, cB3, by omega, rfl, hgO3, by rw [hO1 (by omega)]; exact hvO3, hgB3, by rw [hB1 (by omega)]; exact hvB3, S.sub _ rfl, M⟩
              | (exfalso; omega)
          clear S; intro h213 S
          refine st_condT S rfl ?_
          refine nxD ?_
          refine st_go [1, 2] S rfl (by kernel_rfl) ?_; clear S a; intro a S
          refine st_y S rfl rfl rfl (y_loadAgg (cs := [_, _, _]) S (by kernel_rfl) rfl rfl (M.cellsAt (k := 3) 0 rfl rfl)) ?_; clear S a; intro a S
          refine st_updateM (pos := 14) S M (keyNm) (hgO3) (k := y.nm) Try.underlying67 rfl rfl rfl rfl rfl ?_; clear M; intro w61 M
          simp only [List.set_cons_zero, List.set_cons_succ] at M
          refine nxA ?_
          refine st_y S rfl rfl rfl (y_loadAgg (cs := [_, _, _, _]) S (by kernel_rfl) rfl rfl (M.cellsAt (k := 4) 9 rfl rfl)) ?_; clear S a; intro a S
          refine st_go [2] S rfl (by kernel_rfl) ?_; clear S a; intro a S
          refine st_y S rfl rfl rfl (y_loadAgg (cs := [_, _, _]) S (by kernel_rfl) rfl rfl (M.cellsAt (k := 3) 0 rfl rfl)) ?_; clear S a; intro a S
          refine st_call (xs := [(Operand.tmp 217), (Operand.tmp 219)]) S (enters_of Try.func15 (by decide) rfl) rfl rfl rfl (has_any rl'.a rl'.c s'.l s'.last s'.inc (ro'.v s'.over.length) y.nm _ (M.readAll 1 rfl (by unfold maxLen; omega)) ⟨_, _, _, rfl⟩) ?_
          rintro _ w62 ⟨rfl, hK⟩; refine ⟨_, rfl, ?_⟩; clear S a; intro a S; replace M := M.grow hK
          refine nxC ?_
          refine st_split (t := 220) S rfl ?_ ?_
          · clear S; intro h220 S
            exfalso
            obtain ⟨o, ho, e⟩ := List.any_eq_true.1 h220
            exact hDI.gone (List.mem_of_getElem? hy) (by omega) o ho (Nm.eqb_iff.1 e)
          clear S; intro h220 S
          refine st_condF S rfl ?_
          refine wp_skip ?_
          refine block_normal ?_
          refine nxF ?_
          refine st_go [1] S rfl (by kernel_rfl) ?_; clear S a; intro a S
          (first | refine st_y S rfl rfl rfl (y_addN S rfl rfl (by omega)) ?_ | refine st_y S rfl rfl rfl (y_int S rfl rfl rfl) ?_); clear S a; intro a S
          refine st_go [1] S rfl (by kernel_rfl) ?_; clear S a; intro a S
          refine nxC ?_
          replace M := M.ord [18, 18, 18, 18, 18, 18, 18, 18, 18, 18, 18, 18, 18, 18, 18, 18, 18, 18] (by simp only [ordO, oG, oS, oE, oZ, oB] <;> rfl)
          replace M := M.pre 18
          have hB0 : y.kind = 0 → seenB B (t'.seen.take (j + 1)) = seenB B (t'.seen.take j) ++ [y.nm] := fun h => by rw [htk, seenB_snoc, if_pos h]
          have hB1 : ¬ y.kind = 0 → seenB B (t'.seen.take (j + 1)) = seenB B (t'.seen.take j) := fun h => by rw [htk, seenB_snoc, if_neg h]
          have hO0 : y.kind = 4 → seenO O (t'.seen.take (j + 1)) = seenO O (t'.seen.take j) ++ [y.nm] := fun h => by rw [htk, seenO_snoc, if_pos h]
          have hO1 : ¬ y.kind = 4 → seenO O (t'.seen.take (j + 1)) = seenO O (t'.seen.take j) := fun h => by rw [htk, seenO_snoc, if_neg h]
          first
            | exact ⟨t'.seen.length - (j + 1), by omega, j + 1, mO3, cO3, _, _, by omega, rfl, hgO3, by rw [hO1 (by omega)]; exact hvO3, hgB3.put y.nm (.int .i64 s'.last), by rw [hB0 (by omega)]; exact hvB3.put y.nm _, S.sub _ rfl, M⟩
            | exact ⟨t'.seen.length - (j + 1), by omega, j + 1, _, _, mB3, cB3, by omega, rfl, hgO3.put y.nm (.int .i64 1), by rw [hO0 (by omega)]; exact hvO3.put y.nm, hgB3, by rw [hB1 (by omega)]; exact hvB3, S.sub _ rfl, M⟩
            | exact ⟨t'.seen.length - (j + 1), by omega, j + 1, mO3, cO3, mB3, cB3, by omega, rfl, hgO3, by rw [hO1 (by omega)]; exact hvO3, hgB3, by rw [hB1 (by omega)]; exact hvB3, S.sub _ rfl, M⟩
            | (exfalso; omega)
        clear S; intro h205 S
        refine st_condT S rfl ?_
        refine wp_region_lit ?_
        refine st_go [1, 2] S rfl (by kernel_rfl) ?_; clear S a; intro a S
        refine st_y S rfl rfl rfl (y_loadAgg (cs := [_, _, _]) S (by kernel_rfl) rfl rfl (M.cellsAt (k := 3) 0 rfl rfl)) ?_; clear S a; intro a S
        refine st_run [2, 10] S M rfl (by kernel_rfl) ?_; clear S a; intro a S
        refine st_updateM (pos := 15) S M (keyNm) (hgB3) (k := y.nm) Try.underlying67 rfl rfl rfl rfl rfl ?_; clear M; intro w58 M
        simp only [List.set_cons_zero, List.set_cons_succ] at M
        refine nxA ?_
        refine st_run [1, 1, 1] S M rfl (by kernel_rfl) ?_; clear S a; intro a S
        refine nxC ?_
        refine st_fi (t := 213) S rfl ?_ ?_
        · clear S; intro h213 S
          refine st_condF S rfl ?_
          refine wp_skip ?_
          refine block_normal ?_
          refine nxF ?_
          refine st_go [1] S rfl (by kernel_rfl) ?_; clear S a; intro a S
          (first | refine st_y S rfl rfl rfl (y_addN S rfl rfl (by omega)) ?_ | refine st_y S rfl rfl rfl (y_int S rfl rfl rfl) ?_); clear S a; intro a S
          refine st_go [1] S rfl (by kernel_rfl) ?_; clear S a; intro a S
          refine nxC ?_
          replace M := M.ord [18, 18, 18, 18, 18, 18, 18, 18, 18, 18, 18, 18, 18, 18, 18, 18, 18, 18] (by simp only [ordO, oG, oS, oE, oZ, oB] <;> rfl)
          replace M := M.pre 18
          have hB0 : y.kind = 0 → seenB B (t'.seen.take (j + 1)) = seenB B (t'.seen.take j) ++ [y.nm] := fun h => by rw [htk, seenB_snoc, if_pos h]
          have hB1 : ¬ y.kind = 0 → seenB B (t'.seen.take (j + 1)) = seenB B (t'.seen.take j) := fun h => by rw [htk, seenB_snoc, if_neg h]
          have hO0 : y.kind = 4 → seenO O (t'.seen.take (j + 1)) = seenO O (t'.seen.take j) ++ [y.nm] := fun h => by rw [htk, seenO_snoc, if_pos h]
          have hO1 : ¬ y.kind = 4 → seenO O (t'.seen.take (j + 1)) = seenO O (t'.seen.take j) := fun h => by rw [htk, seenO_snoc, if_neg h]
          first
            | exact ⟨t'.seen.length - (j + 1), by omega, j + 1, mO3, cO3, _, _, by omega, rfl, hgO3, by rw [hO1 (by omega)]; exact hvO3, hgB3.put y.nm (.int .i64 s'.last), by rw [hB0 (by omega)]; exact hvB3.put y.nm _, S.sub _ rfl, M⟩
            | exact ⟨t'.seen.length - (j + 1), by omega, j + 1, _, _, mB3, cB3, by omega, rfl, hgO3.put y.nm (.int .i64 1), by rw [hO0 (by omega)]; exact hvO3.put y.nm, hgB3, by rw [hB1 (by omega)]; exact hvB3, S.sub _ rfl, M⟩
            | exact ⟨t'.seen.length - (j + 1), by omega, j + 1, mO3, cO3, mB3, cB3, by omega, rfl, hgO3, by rw [hO1 (by omega)]; exact hvO3, hgB3, by rw [hB1 (by omega)]; exact hvB3, S.sub _ rfl, M⟩
            | (exfalso; omega)
        clear S; intro h213 S
        refine st_condT S rfl ?_
        refine nxD ?_
        refine st_go [1, 2] S rfl (by kernel_rfl) ?_; clear S a; intro a S
        refine st_y S rfl rfl rfl (y_loadAgg (cs := [_, _, _]) S (by kernel_rfl) rfl rfl (M.cellsAt (k := 3) 0 rfl rfl)) ?_; clear S a; intro a S
        refine st_updateM (pos := 14) S M (keyNm) (hgO3) (k := y.nm) Try.underlying67 rfl rfl rfl rfl rfl ?_; clear M; intro w59 M
        simp only [List.set_cons_zero, List.set_cons_succ] at M
        refine nxA ?_
        refine st_y S rfl rfl rfl (y_loadAgg (cs := [_, _, _, _]) S (by kernel_rfl) rfl rfl (M.cellsAt (k := 4) 9 rfl rfl)) ?_; clear S a; intro a S
        refine st_go [2] S rfl (by kernel_rfl) ?_; clear S a; intro a S
        refine st_y S rfl rfl rfl (y_loadAgg (cs := [_, _, _]) S (by kernel_rfl) rfl rfl (M.cellsAt (k := 3) 0 rfl rfl)) ?_; clear S a; intro a S
        refine st_call (xs := [(Operand.tmp 217), (Operand.tmp 219)]) S (enters_of Try.func15 (by decide) rfl) rfl rfl rfl (has_any rl'.a rl'.c s'.l s'.last s'.inc (ro'.v s'.over.length) y.nm _ (M.readAll 1 rfl (by unfold maxLen; omega)) ⟨_, _, _, rfl⟩) ?_
        rintro _ w60 ⟨rfl, hK⟩; refine ⟨_, rfl, ?_⟩; clear S a; intro a S; replace M := M.grow hK
        replace S := S.sub [(1, _), (2, _), (5, _), (7, _), (8, _), (9, _), (10, _), (11, _), (12, _), (13, _), (14, _), (18, _), (166, _), (19, _), (21, _), (202, _), (205, _), (213, _), (220, _)] rfl
        refine nxC ?_
        refine st_split (t := 220) S rfl ?_ ?_
        · clear S; intro h220 S
          exfalso
          obtain ⟨o, ho, e⟩ := List.any_eq_true.1 h220
          exact hDI.gone (List.mem_of_getElem? hy) (by omega) o ho (Nm.eqb_iff.1 e)
        clear S; intro h220 S
        refine st_condF S rfl ?_
        refine wp_skip ?_
        refine block_normal ?_
        refine nxF ?_
        refine st_go [1] S rfl (by kernel_rfl) ?_; clear S a; intro a S
        (first | refine st_y S rfl rfl rfl (y_addN S rfl rfl (by omega)) ?_ | refine st_y S rfl rfl rfl (y_int S rfl rfl rfl) ?_); clear S a; intro a S
        refine st_go [1] S rfl (by kernel_rfl) ?_; clear S a; intro a S
        refine nxC ?_
        replace M := M.ord [18, 18, 18, 18, 18, 18, 18, 18, 18, 18, 18, 18, 18, 18, 18, 18, 18, 18] (by simp only [ordO, oG, oS, oE, oZ, oB] <;> rfl)
        replace M := M.pre 18
        have hB0 : y.kind = 0 → seenB B (t'.seen.take (j + 1)) = seenB B (t'.seen.take j) ++ [y.nm] := fun h => by rw [htk, seenB_snoc, if_pos h]
        have hB1 : ¬ y.kind = 0 → seenB B (t'.seen.take (j + 1)) = seenB B (t'.seen.take j) := fun h => by rw [htk, seenB_snoc, if_neg h]
        have hO0 : y.kind = 4 → seenO O (t'.seen.take (j + 1)) = seenO O (t'.seen.take j) ++ [y.nm] := fun h => by rw [htk, seenO_snoc, if_pos h]
        have hO1 : ¬ y.kind = 4 → seenO O (t'.seen.take (j + 1)) = seenO O (t'.seen.take j) := fun h => by rw [htk, seenO_snoc, if_neg h]
        first
          | exact ⟨t'.seen.length - (j + 1), by omega, j + 1, mO3, cO3, _, _, by omega, rfl, hgO3, by rw [hO1 (by omega)]; exact hvO3, hgB3.put y.nm (.int .i64 s'.last), by rw [hB0 (by omega)]; exact hvB3.put y.nm _, S.sub _ rfl, M⟩
          | exact ⟨t'.seen.length - (j + 1), by omega, j + 1, _, _, mB3, cB3, by omega, rfl, hgO3.put y.nm (.int .i64 1), by rw [hO0 (by omega)]; exact hvO3.put y.nm, hgB3, by rw [hB1 (by omega)]; exact hvB3, S.sub _ rfl, M⟩
          | exact ⟨t'.seen.length - (j + 1), by omega, j + 1, mO3, cO3, mB3, cB3, by omega, rfl, hgO3, by rw [hO1 (by omega)]; exact hvO3, hgB3, by rw [hB1 (by omega)]; exact hvB3, S.sub _ rfl, M⟩
          | (exfalso; omega)
      clear S; intro h191 S
      refine st_go [1, 1, 1] S rfl (by kernel_rfl) ?_; clear S a; intro a S
      refine st_if (t := 194) S rfl ?_ ?_
      · clear S; intro h194 S
        refine st_go [0, 0, 0, 0] S rfl (by kernel_rfl) ?_; clear S a; intro a S
        refine st_no S rfl rfl rfl ?_; clear S a; intro a S
        refine st_go [1, 1, 1] S rfl (by kernel_rfl) ?_; clear S a; intro a S
        replace S := S.sub [(1, _), (2, _), (5, _), (7, _), (8, _), (9, _), (10, _), (11, _), (12, _), (13, _), (14, _), (18, _), (166, _), (19, _), (21, _), (202, _)] rfl
        refine nxC ?_
        refine st_condT S rfl ?_
        refine nxD ?_
        refine st_go [1] S rfl (by kernel_rfl) ?_; clear S a; intro a S
        refine nxC ?_
        refine wp_ret ?_
        refine then_ret ?_
        refine block_ret ?_
        refine then_ret ?_
        refine then_ret ?_
        refine block_ret ?_
        refine then_ret ?_
        refine block_ret ?_
        refine then_ret ?_
        refine then_ret ?_
        refine block_ret ?_
        refine then_ret ?_
        refine end_one S rfl (res_tmp rfl) ?_
        first
          | exact ⟨rfl, M.below⟩
          | (exfalso; omega)
          | (exfalso; rcases hcase with ⟨h1, h2, h3⟩ | ⟨h1, h2⟩ <;> simp_all)
      clear S; intro h194 S
      refine st_go [1, 2] S rfl (by kernel_rfl) ?_; clear S a; intro a S
      refine st_y S rfl rfl rfl (y_loadAgg (cs := [_, _, _]) S (by kernel_rfl) rfl rfl (M.cellsAt (k := 3) 0 rfl rfl)) ?_; clear S a; intro a S
      refine st_y S rfl rfl rfl (y_lookupM (pos := 14) S M (keyNm) (hgO3) (k := y.nm) Try.underlying67 (zero_i64) rfl rfl rfl) ?_; clear S a; intro a S
      simp only [Bool.false_eq_true, if_false, hno (by omega)] at S
      refine st_y S rfl rfl rfl (y_int S rfl rfl rfl) ?_; clear S a; intro a S
      refine st_go [1, 1, 1] S rfl (by kernel_rfl) ?_; clear S a; intro a S
      replace S := S.sub [(1, _), (2, _), (5, _), (7, _), (8, _), (9, _), (10, _), (11, _), (12, _), (13, _), (14, _), (18, _), (166, _), (19, _), (21, _), (202, _)] rfl
      refine nxC ?_
      refine st_if (t := 202) S rfl ?_ ?_
      · clear S; intro h202 S
        refine st_condT S rfl ?_
        refine nxD ?_
        refine st_go [1] S rfl (by kernel_rfl) ?_; clear S a; intro a S
        refine nxC ?_
        refine wp_ret ?_
        refine then_ret ?_
        refine block_ret ?_
        refine then_ret ?_
        refine then_ret ?_
        refine block_ret ?_
        refine then_ret ?_
        refine block_ret ?_
        refine then_ret ?_
        refine then_ret ?_
        refine block_ret ?_
        refine then_ret ?_
        refine end_one S rfl (res_tmp rfl) ?_
        first
          | exact ⟨rfl, M.below⟩
          | (exfalso; omega)
          | (exfalso; rcases hcase with ⟨h1, h2, h3⟩ | ⟨h1, h2⟩ <;> simp_all)
      clear S; intro h202 S
      refine st_condF S rfl ?_
      refine wp_skip ?_
      refine then_normal ?_
      refine wp_seq ?_
      refine nxD ?_
      refine st_run [1, 1, 1] S M rfl (by kernel_rfl) ?_; clear S a; intro a S
      refine nxC ?_
      refine st_fi (t := 205) S rfl ?_ ?_
      · clear S; intro h205 S
        refine st_condF S rfl ?_
        refine wp_skip ?_
        refine nxE ?_
        refine st_run [1, 1, 1] S M rfl (by kernel_rfl) ?_; clear S a; intro a S
        refine nxC ?_
        refine st_fi (t := 213) S rfl ?_ ?_
        · clear S; intro h213 S
          refine st_condF S rfl ?_
          refine wp_skip ?_
          refine block_normal ?_
          refine nxF ?_
          refine st_go [1] S rfl (by kernel_rfl) ?_; clear S a; intro a S
          (first | refine st_y S rfl rfl rfl (y_addN S rfl rfl (by omega)) ?_ | refine st_y S rfl rfl rfl (y_int S rfl rfl rfl) ?_); clear S a; intro a S
          refine st_go [1] S rfl (by kernel_rfl) ?_; clear S a; intro a S
          refine nxC ?_
          replace M := M.ord [18, 18, 18, 18, 18, 18, 18, 18, 18, 18, 18, 18, 18, 18, 18, 18, 18, 18] (by simp only [ordO, oG, oS, oE, oZ, oB] <;> rfl)
          replace M := M.pre 18
          have hB0 : y.kind = 0 → seenB B (t'.seen.take (j + 1)) = seenB B (t'.seen.take j) ++ [y.nm] := fun h => by rw [htk, seenB_snoc, if_pos h]
          have hB1 : ¬ y.kind = 0 → seenB B (t'.seen.take (j + 1)) = seenB B (t'.seen.take j) := fun h => by rw [htk, seenB_snoc, if_neg h]
          have hO0 : y.kind = 4 → seenO O (t'.seen.take (j + 1)) = seenO O (t'.seen.take j) ++ [y.nm] := fun h => by rw [htk, seenO_snoc, if_pos h]
          have hO1 : ¬ y.kind = 4 → seenO O (t'.seen.take (j + 1)) = seenO O (t'.seen.take j) := fun h => by rw [htk, seenO_snoc, if_neg h]
          first
            | exact ⟨t'.seen.length - (j + 1), by omega, j + 1, mO3, cO3, _, _, by omega, rfl, hgO3, by rw [hO1 (by omega)]; exact hvO3, hgB3.put y.nm (.int .i64 s'.last), by rw [hB0 (by omega)]; exact hvB3.put y.nm _, S.sub _ rfl, M⟩
            | exact ⟨t'.seen.length - (j + 1), by omega, j + 1, _, _, mB3, cB3, by omega, rfl, hgO3.put y.nm (.int .i64 1), by rw [hO0 (by omega)]; exact hvO3.put y.nm, hgB3, by rw [hB1 (by omega)]; exact hvB3, S.sub _ rfl, M⟩
            | exact ⟨t'.seen.length - (j + 1), by omega, j + 1, mO3, cO3, mB3, cB3, by omega, rfl, hgO3, by rw [hO1 (by omega)]; exact hvO3, hgB3, by rw [hB1 (by omega)]; exact hvB3, S.sub _ rfl, M⟩
            | (exfalso; omega)
        clear S; intro h213 S
        refine st_condT S rfl ?_
        refine nxD ?_
        refine st_go [1, 2] S rfl (by kernel_rfl) ?_; clear S a; intro a S
        refine st_y S rfl rfl rfl (y_loadAgg (cs := [_, _, _]) S (by kernel_rfl) rfl rfl (M.cellsAt (k := 3) 0 rfl rfl)) ?_; clear S a; intro a S
        refine st_updateM (pos := 14) S M (keyNm) (hgO3) (k := y.nm) Try.underlying67 rfl rfl rfl rfl rfl ?_; clear M; intro w56 M
        simp only [List.set_cons_zero, List.set_cons_succ] at M
        refine nxA ?_
        refine st_y S rfl rfl rfl (y_loadAgg (cs := [_, _, _, _]) S (by kernel_rfl) rfl rfl (M.cellsAt (k := 4) 9 rfl rfl)) ?_; clear S a; intro a S
        refine st_go [2] S rfl (by kernel_rfl) ?_; clear S a; intro a S
        refine st_y S rfl rfl rfl (y_loadAgg (cs := [_, _, _]) S (by kernel_rfl) rfl rfl (M.cellsAt (k := 3) 0 rfl rfl)) ?_; clear S a; intro a S
        refine st_call (xs := [(Operand.tmp 217), (Operand.tmp 219)]) S (enters_of Try.func15 (by decide) rfl) rfl rfl rfl (has_any rl'.a rl'.c s'.l s'.last s'.inc (ro'.v s'.over.length) y.nm _ (M.readAll 1 rfl (by unfold maxLen; omega)) ⟨_, _, _, rfl⟩) ?_
        rintro _ w57 ⟨rfl, hK⟩; refine ⟨_, rfl, ?_⟩; clear S a; intro a S; replace M := M.grow hK
        refine nxC ?_
        refine st_split (t := 220) S rfl ?_ ?_
        · clear S; intro h220 S
          exfalso
          obtain ⟨o, ho, e⟩ := List.any_eq_true.1 h220
          exact hDI.gone (List.mem_of_getElem? hy) (by omega) o ho (Nm.eqb_iff.1 e)
        clear S; intro h220 S
        refine st_condF S rfl ?_
        refine wp_skip ?_
        refine block_normal ?_
        refine nxF ?_
        refine st_go [1] S rfl (by kernel_rfl) ?_; clear S a; intro a S
        (first | refine st_y S rfl rfl rfl (y_addN S rfl rfl (by omega)) ?_ | refine st_y S rfl rfl rfl (y_int S rfl rfl rfl) ?_); clear S a; intro a S
        refine st_go [1] S rfl (by kernel_rfl) ?_; clear S a; intro a S
        refine nxC ?_
        replace M := M.ord [18, 18, 18, 18, 18, 18, 18, 18, 18, 18, 18, 18, 18, 18, 18, 18, 18, 18] (by simp only [ordO, oG, oS, oE, oZ, oB] <;> rfl)
        replace M := M.pre 18
        have hB0 : y.kind = 0 → seenB B (t'.seen.take (j + 1)) = seenB B (t'.seen.take j) ++ [y.nm] := fun h => by rw [htk, seenB_snoc, if_pos h]
        have hB1 : ¬ y.kind = 0 → seenB B (t'.seen.take (j + 1)) = seenB B (t'.seen.take j) := fun h => by rw [htk, seenB_snoc, if_neg h]
        have hO0 : y.kind = 4 → seenO O (t'.seen.take (j + 1)) = seenO O (t'.seen.take j) ++ [y.nm] := fun h => by rw [htk, seenO_snoc, if_pos h]
        have hO1 : ¬ y.kind = 4 → seenO O (t'.seen.take (j + 1)) = seenO O (t'.seen.take j) := fun h => by rw [htk, seenO_snoc, if_neg h]
        first
          | exact ⟨t'.seen.length - (j + 1), by omega, j + 1, mO3, cO3, _, _, by omega, rfl, hgO3, by rw [hO1 (by omega)]; exact hvO3, hgB3.put y.nm (.int .i64 s'.last), by rw [hB0 (by omega)]; exact hvB3.put y.nm _, S.sub _ rfl, M⟩
          | exact ⟨t'.seen.length - (j + 1), by omega, j + 1, _, _, mB3, cB3, by omega, rfl, hgO3.put y.nm (.int .i64 1), by rw [hO0 (by omega)]; exact hvO3.put y.nm, hgB3, by rw [hB1 (by omega)]; exact hvB3, S.sub _ rfl, M⟩
          | exact ⟨t'.seen.length - (j + 1), by omega, j + 1, mO3, cO3, mB3, cB3, by omega, rfl, hgO3, by rw [hO1 (by omega)]; exact hvO3, hgB3, by rw [hB1 (by omega)]; exact hvB3, S.sub _ rfl, M⟩
          | (exfalso; omega)
      clear S; intro h205 S
      refine st_condT S rfl ?_
      refine wp_region_lit ?_
      refine st_go [1, 2] S rfl (by kernel_rfl) ?_; clear S a; intro a S
      refine st_y S rfl rfl rfl (y_loadAgg (cs := [_, _, _]) S (by kernel_rfl) rfl rfl (M.cellsAt (k := 3) 0 rfl rfl)) ?_; clear S a; intro a S
      refine st_run [2, 10] S M rfl (by kernel_rfl) ?_; clear S a; intro a S
      refine st_updateM (pos := 15) S M (keyNm) (hgB3) (k := y.nm) Try.underlying67 rfl rfl rfl rfl rfl ?_; clear M; intro w53 M
      simp only [List.set_cons_zero, List.set_cons_succ] at M
      refine nxA ?_
      refine st_run [1, 1, 1] S M rfl (by kernel_rfl) ?_; clear S a; intro a S
      refine nxC ?_
      refine st_fi (t := 213) S rfl ?_ ?_
      · clear S; intro h213 S
        refine st_condF S rfl ?_
        refine wp_skip ?_
        refine block_normal ?_
        refine nxF ?_
        refine st_go [1] S rfl (by kernel_rfl) ?_; clear S a; intro a S
        (first | refine st_y S rfl rfl rfl (y_addN S rfl rfl (by omega)) ?_ | refine st_y S rfl rfl rfl (y_int S rfl rfl rfl) ?_); clear S a; intro a S
        refine st_go [1] S rfl (by kernel_rfl) ?_; clear S a; intro a S
        refine nxC ?_
        replace M := M.ord [18, 18, 18, 18, 18, 18, 18, 18, 18, 18, 18, 18, 18, 18, 18, 18, 18, 18] (by simp only [ordO, oG, oS, oE, oZ, oB] <;> rfl)
        replace M := M.pre 18
        have hB0 : y.kind = 0 → seenB B (t'.seen.take (j + 1)) = seenB B (t'.seen.take j) ++ [y.nm] := fun h => by rw [htk, seenB_snoc, if_pos h]
        have hB1 : ¬ y.kind = 0 → seenB B (t'.seen.take (j + 1)) = seenB B (t'.seen.take j) := fun h => by rw [htk, seenB_snoc, if_neg h]
        have hO0 : y.kind = 4 → seenO O (t'.seen.take (j + 1)) = seenO O (t'.seen.take j) ++ [y.nm] := fun h => by rw [htk, seenO_snoc, if_pos h]
        have hO1 : ¬ y.kind = 4 → seenO O (t'.seen.take (j + 1)) = seenO O (t'.seen.take j) := fun h => by rw [htk, seenO_snoc, if_neg h]
        first
          | exact ⟨t'.seen.length - (j + 1), by omega, j + 1, mO3, cO3, _, _, by omega, rfl, hgO3, by rw [hO1 (by omega)]; exact hvO3, hgB3.put y.nm (.int .i64 s'.last), by rw [hB0 (by omega)]; exact hvB3.put y.nm _, S.sub _ rfl, M⟩
          | exact ⟨t'.seen.length - (j + 1), by omega, j + 1, _, _, mB3, cB3, by omega, rfl, hgO3.put y.nm (.int .i64 1), by rw [hO0 (by omega)]; exact hvO3.put y.nm, hgB3, by rw [hB1 (by omega)]; exact hvB3, S.sub _ rfl, M⟩
          | exact ⟨t'.seen.length - (j + 1), by omega, j + 1, mO3, cO3, mB3, cB3, by omega, rfl, hgO3, by rw [hO1 (by omega)]; exact hvO3, hgB3, by rw [hB1 (by omega)]; exact hvB3, S.sub _ rfl, M⟩
          | (exfalso; omega)
      clear S; intro h213 S
      refine st_condT S rfl ?_
      refine nxD ?_
      refine st_go [1, 2] S rfl (by kernel_rfl) ?_; clear S a; intro a S
      refine st_y S rfl rfl rfl (y_loadAgg (cs := [_, _, _]) S (by kernel_rfl) rfl rfl (M.cellsAt (k := 3) 0 rfl rfl)) ?_; clear S a; intro a S
      refine st_updateM (pos := 14) S M (keyNm) (hgO3) (k := y.nm) Try.underlying67 rfl rfl rfl rfl rfl ?_; clear M; intro w54 M
      simp only [List.set_cons_zero, List.set_cons_succ] at M
      refine nxA ?_
      refine st_y S rfl rfl rfl (y_loadAgg (cs := [_, _, _, _]) S (by kernel_rfl) rfl rfl (M.cellsAt (k := 4) 9 rfl rfl)) ?_; clear S a; intro a S
      refine st_go [2] S rfl (by kernel_rfl) ?_; clear S a; intro a S
      refine st_y S rfl rfl rfl (y_loadAgg (cs := [_, _, _]) S (by kernel_rfl) rfl rfl (M.cellsAt (k := 3) 0 rfl rfl)) ?_; clear S a; intro a S
      refine st_call (xs := [(Operand.tmp 217), (Operand.tmp 219)]) S (enters_of Try.func15 (by decide) rfl) rfl rfl rfl (has_any rl'.a rl'.c s'.l s'.last s'.inc (ro'.v s'.over.length) y.nm _ (M.readAll 1 rfl (by unfold maxLen; omega)) ⟨_, _, _, rfl⟩) ?_
      rintro _ w55 ⟨rfl, hK⟩; refine ⟨_, rfl, ?_⟩; clear S a; intro a S; replace M := M.grow hK
      replace S := S.sub [(1, _), (2, _), (5, _), (7, _), (8, _), (9, _), (10, _), (11, _), (12, _), (13, _), (14, _), (18, _), (166, _), (19, _), (21, _), (202, _), (205, _), (213, _), (220, _)] rfl
      refine nxC ?_
      refine st_split (t := 220) S rfl ?_ ?_
      · clear S; intro h220 S
        exfalso
        obtain ⟨o, ho, e⟩ := List.any_eq_true.1 h220
        exact hDI.gone (List.mem_of_getElem? hy) (by omega) o ho (Nm.eqb_iff.1 e)
      clear S; intro h220 S
      refine st_condF S rfl ?_
      refine wp_skip ?_
      refine block_normal ?_
      refine nxF ?_
      refine st_go [1] S rfl (by kernel_rfl) ?_; clear S a; intro a S
      (first | refine st_y S rfl rfl rfl (y_addN S rfl rfl (by omega)) ?_ | refine st_y S rfl rfl rfl (y_int S rfl rfl rfl) ?_); clear S a; intro a S
      refine st_go [1] S rfl (by kernel_rfl) ?_; clear S a; intro a S
      refine nxC ?_
      replace M := M.ord [18, 18, 18, 18, 18, 18, 18, 18, 18, 18, 18, 18, 18, 18, 18, 18, 18, 18] (by simp only [ordO, oG, oS, oE, oZ, oB] <;> rfl)
      replace M := M.pre 18
      have hB0 : y.kind = 0 → seenB B (t'.seen.take (j + 1)) = seenB B (t'.seen.take j) ++ [y.nm] := fun h => by rw [htk, seenB_snoc, if_pos h]
      have hB1 : ¬ y.kind = 0 → seenB B (t'.seen.take (j + 1)) = seenB B (t'.seen.take j) := fun h => by rw [htk, seenB_snoc, if_neg h]
      have hO0 : y.kind = 4 → seenO O (t'.seen.take (j + 1)) = seenO O (t'.seen.take j) ++ [y.nm] := fun h => by rw [htk, seenO_snoc, if_pos h]
      have hO1 : ¬ y.kind = 4 → seenO O (t'.seen.take (j + 1)) = seenO O (t'.seen.take j) := fun h => by rw [htk, seenO_snoc, if_neg h]
      first
        | exact ⟨t'.seen.length - (j + 1), by omega, j + 1, mO3, cO3, _, _, by omega, rfl, hgO3, by rw [hO1 (by omega)]; exact hvO3, hgB3.put y.nm (.int .i64 s'.last), by rw [hB0 (by omega)]; exact hvB3.put y.nm _, S.sub _ rfl, M⟩
        | exact ⟨t'.seen.length - (j + 1), by omega, j + 1, _, _, mB3, cB3, by omega, rfl, hgO3.put y.nm (.int .i64 1), by rw [hO0 (by omega)]; exact hvO3.put y.nm, hgB3, by rw [hB1 (by omega)]; exact hvB3, S.sub _ rfl, M⟩
        | exact ⟨t'.seen.length - (j + 1), by omega, j + 1, mO3, cO3, mB3, cB3, by omega, rfl, hgO3, by rw [hO1 (by omega)]; exact hvO3, hgB3, by rw [hB1 (by omega)]; exact hvB3, S.sub _ rfl, M⟩
        | (exfalso; omega)
    clear S; intro h184 S
    refine st_go [1, 1, 1] S rfl (by kernel_rfl) ?_; clear S a; intro a S
    refine st_if (t := 187) S rfl ?_ ?_
    · clear S; intro h187 S
      refine st_go [0, 0, 0, 0, 0, 0, 0, 0, 0, 0, 0] S rfl (by kernel_rfl) ?_; clear S a; intro a S
      refine st_no S rfl rfl rfl ?_; clear S a; intro a S
      refine st_go [0, 0, 1] S rfl (by kernel_rfl) ?_; clear S a; intro a S
      replace S := S.sub [(1, _), (2, _), (5, _), (7, _), (8, _), (9, _), (10, _), (11, _), (12, _), (13, _), (14, _), (18, _), (166, _), (19, _), (21, _), (202, _)] rfl
      refine nxC ?_
      refine st_condT S rfl ?_
      refine nxD ?_
      refine st_go [1] S rfl (by kernel_rfl) ?_; clear S a; intro a S
      refine nxC ?_
      refine wp_ret ?_
      refine then_ret ?_
      refine block_ret ?_
      refine then_ret ?_
      refine then_ret ?_
      refine block_ret ?_
      refine then_ret ?_
      refine block_ret ?_
      refine then_ret ?_
      refine then_ret ?_
      refine block_ret ?_
      refine then_ret ?_
      refine end_one S rfl (res_tmp rfl) ?_
      first
        | exact ⟨rfl, M.below⟩
        | (exfalso; omega)
        | (exfalso; rcases hcase with ⟨h1, h2, h3⟩ | ⟨h1, h2⟩ <;> simp_all)
    clear S; intro h187 S
    refine st_run [1, 1, 1, 1] S M rfl (by kernel_rfl) ?_; clear S a; intro a S
    refine st_fi (t := 191) S rfl ?_ ?_
    · clear S; intro h191 S
      refine st_go [0, 0, 0, 0, 0, 0, 0] S rfl (by kernel_rfl) ?_; clear S a; intro a S
      refine st_no S rfl rfl rfl ?_; clear S a; intro a S
      refine st_go [0, 1, 1] S rfl (by kernel_rfl) ?_; clear S a; intro a S
      replace S := S.sub [(1, _), (2, _), (5, _), (7, _), (8, _), (9, _), (10, _), (11, _), (12, _), (13, _), (14, _), (18, _), (166, _), (19, _), (21, _), (202, _)] rfl
      refine nxC ?_
      refine st_condF S rfl ?_
      refine wp_skip ?_
      refine then_normal ?_
      refine wp_seq ?_
      refine nxD ?_
      refine st_run [1, 1, 1] S M rfl (by kernel_rfl) ?_; clear S a; intro a S
      refine nxC ?_
      refine st_fi (t := 205) S rfl ?_ ?_
      · clear S; intro h205 S
        refine st_condF S rfl ?_
        refine wp_skip ?_
        refine nxE ?_
        refine st_run [1, 1, 1] S M rfl (by kernel_rfl) ?_; clear S a; intro a S
        refine nxC ?_
        refine st_fi (t := 213) S rfl ?_ ?_
        · clear S; intro h213 S
          refine st_condF S rfl ?_
          refine wp_skip ?_
          refine block_normal ?_
          refine nxF ?_
          refine st_go [1] S rfl (by kernel_rfl) ?_; clear S a; intro a S
          (first | refine st_y S rfl rfl rfl (y_addN S rfl rfl (by omega)) ?_ | refine st_y S rfl rfl rfl (y_int S rfl rfl rfl) ?_); clear S a; intro a S
          refine st_go [1] S rfl (by kernel_rfl) ?_; clear S a; intro a S
          refine nxC ?_
          replace M := M.ord [18, 18, 18, 18, 18, 18, 18, 18, 18, 18, 18, 18, 18, 18, 18, 18, 18, 18] (by simp only [ordO, oG, oS, oE, oZ, oB] <;> rfl)
          replace M := M.pre 18
          have hB0 : y.kind = 0 → seenB B (t'.seen.take (j + 1)) = seenB B (t'.seen.take j) ++ [y.nm] := fun h => by rw [htk, seenB_snoc, if_pos h]
          have hB1 : ¬ y.kind = 0 → seenB B (t'.seen.take (j + 1)) = seenB B (t'.seen.take j) := fun h => by rw [htk, seenB_snoc, if_neg h]
          have hO0 : y.kind = 4 → seenO O (t'.seen.take (j + 1)) = seenO O (t'.seen.take j) ++ [y.nm] := fun h => by rw [htk, seenO_snoc, if_pos h]
          have hO1 : ¬ y.kind = 4 → seenO O (t'.seen.take (j + 1)) = seenO O (t'.seen.take j) := fun h => by rw [htk, seenO_snoc, if_neg h]
          first
            | exact ⟨t'.seen.length - (j + 1), by omega, j + 1, mO3, cO3, _, _, by omega, rfl, hgO3, by rw [hO1 (by omega)]; exact hvO3, hgB3.put y.nm (.int .i64 s'.last), by rw [hB0 (by omega)]; exact hvB3.put y.nm _, S.sub _ rfl, M⟩
            | exact ⟨t'.seen.length - (j + 1), by omega, j + 1, _, _, mB3, cB3, by omega, rfl, hgO3.put y.nm (.int .i64 1), by rw [hO0 (by omega)]; exact hvO3.put y.nm, hgB3, by rw [hB1 (by omega)]; exact hvB3, S.sub _ rfl, M⟩
            | exact ⟨t'.seen.length - (j + 1), by omega, j + 1, mO3, cO3, mB3, cB3, by omega, rfl, hgO3, by rw [hO1 (by omega)]; exact hvO3, hgB3, by rw [hB1 (by omega)]; exact hvB3, S.sub _ rfl, M⟩
            | (exfalso; omega)
        clear S; intro h213 S
        refine st_condT S rfl ?_
        refine nxD ?_
        refine st_go [1, 2] S rfl (by kernel_rfl) ?_; clear S a; intro a S
        refine st_y S rfl rfl rfl (y_loadAgg (cs := [_, _, _]) S (by kernel_rfl) rfl rfl (M.cellsAt (k := 3) 0 rfl rfl)) ?_; clear S a; intro a S
        refine st_updateM (pos := 14) S M (keyNm) (hgO3) (k := y.nm) Try.underlying67 rfl rfl rfl rfl rfl ?_; clear M; intro w51 M
        simp only [List.set_cons_zero, List.set_cons_succ] at M
        refine nxA ?_
        refine st_y S rfl rfl rfl (y_loadAgg (cs := [_, _, _, _]) S (by kernel_rfl) rfl rfl (M.cellsAt (k := 4) 9 rfl rfl)) ?_; clear S a; intro a S
        refine st_go [2] S rfl (by kernel_rfl) ?_; clear S a; intro a S
        refine st_y S rfl rfl rfl (y_loadAgg (cs := [_, _, _]) S (by kernel_rfl) rfl rfl (M.cellsAt (k := 3) 0 rfl rfl)) ?_; clear S a; intro a S
        refine st_call (xs := [(Operand.tmp 217), (Operand.tmp 219)]) S (enters_of Try.func15 (by decide) rfl) rfl rfl rfl (has_any rl'.a rl'.c s'.l s'.last s'.inc (ro'.v s'.over.length) y.nm _ (M.readAll 1 rfl (by unfold maxLen; omega)) ⟨_, _, _, rfl⟩) ?_
        rintro _ w52 ⟨rfl, hK⟩; refine ⟨_, rfl, ?_⟩; clear S a; intro a S; replace M := M.grow hK
        refine nxC ?_
        refine st_split (t := 220) S rfl ?_ ?_
        · clear S; intro h220 S
          exfalso
          obtain ⟨o, ho, e⟩ := List.any_eq_true.1 h220
          exact hDI.gone (List.mem_of_getElem? hy) (by omega) o ho (Nm.eqb_iff.1 e)
        clear S; intro h220 S
        refine st_condF S rfl ?_
        refine wp_skip ?_
        refine block_normal ?_
        refine nxF ?_
        refine st_go [1] S rfl (by kernel_rfl) ?_; clear S a; intro a S
        (first | refine st_y S rfl rfl rfl (y_addN S rfl rfl (by omega)) ?_ | refine st_y S rfl rfl rfl (y_int S rfl rfl rfl) ?_); clear S a; intro a S
        refine st_go [1] S rfl (by kernel_rfl) ?_; clear S a; intro a S
        refine nxC ?_
        replace M := M.ord [18, 18, 18, 18, 18, 18, 18, 18, 18, 18, 18, 18, 18, 18, 18, 18, 18, 18] (by simp only [ordO, oG, oS, oE, oZ, oB] <;> rfl)
        replace M := M.pre 18
        have hB0 : y.kind = 0 → seenB B (t'.seen.take (j + 1)) = seenB B (t'.seen.take j) ++ [y.nm] := fun h => by rw [htk, seenB_snoc, if_pos h]
        have hB1 : ¬ y.kind = 0 → seenB B (t'.seen.take (j + 1)) = seenB B (t'.seen.take j) := fun h => by rw [htk, seenB_snoc, if_neg h]
        have hO0 : y.kind = 4 → seenO O (t'.seen.take (j + 1)) = seenO O (t'.seen.take j) ++ [y.nm] := fun h => by rw [htk, seenO_snoc, if_pos h]
        have hO1 : ¬ y.kind = 4 → seenO O (t'.seen.take (j + 1)) = seenO O (t'.seen.take j) := fun h => by rw [htk, seenO_snoc, if_neg h]
        first
          | exact ⟨t'.seen.length - (j + 1), by omega, j + 1, mO3, cO3, _, _, by omega, rfl, hgO3, by rw [hO1 (by omega)]; exact hvO3, hgB3.put y.nm (.int .i64 s'.last), by rw [hB0 (by omega)]; exact hvB3.put y.nm _, S.sub _ rfl, M⟩
          | exact ⟨t'.seen.length - (j + 1), by omega, j + 1, _, _, mB3, cB3, by omega, rfl, hgO3.put y.nm (.int .i64 1), by rw [hO0 (by omega)]; exact hvO3.put y.nm, hgB3, by rw [hB1 (by omega)]; exact hvB3, S.sub _ rfl, M⟩
          | exact ⟨t'.seen.length - (j + 1), by omega, j + 1, mO3, cO3, mB3, cB3, by omega, rfl, hgO3, by rw [hO1 (by omega)]; exact hvO3, hgB3, by rw [hB1 (by omega)]; exact hvB3, S.sub _ rfl, M⟩
          | (exfalso; omega)
      clear S; intro h205 S
      refine st_condT S rfl ?_
      refine wp_region_lit ?_
      refine st_go [1, 2] S rfl (by kernel_rfl) ?_; clear S a; intro a S
      refine st_y S rfl rfl rfl (y_loadAgg (cs := [_, _, _]) S (by kernel_rfl) rfl rfl (M.cellsAt (k := 3) 0 rfl rfl)) ?_; clear S a; intro a S
      refine st_run [2, 10] S M rfl (by kernel_rfl) ?_; clear S a; intro a S
      refine st_updateM (pos := 15) S M (keyNm) (hgB3) (k := y.nm) Try.underlying67 rfl rfl rfl rfl rfl ?_; clear M; intro w48 M
      simp only [List.set_cons_zero, List.set_cons_succ] at M
      refine nxA ?_
      refine st_run [1, 1, 1] S M rfl (by kernel_rfl) ?_; clear S a; intro a S
      refine nxC ?_
      refine st_fi (t := 213) S rfl ?_ ?_
      · clear S; intro h213 S
        refine st_condF S rfl ?_
        refine wp_skip ?_
        refine block_normal ?_
        refine nxF ?_
        refine st_go [1] S rfl (by kernel_rfl) ?_; clear S a; intro a S
        (first | refine st_y S rfl rfl rfl (y_addN S rfl rfl (by omega)) ?_ | refine st_y S rfl rfl rfl (y_int S rfl rfl rfl) ?_); clear S a; intro a S
        refine st_go [1] S rfl (by kernel_rfl) ?_; clear S a; intro a S
        refine nxC ?_
        replace M := M.ord [18, 18, 18, 18, 18, 18, 18, 18, 18, 18, 18, 18, 18, 18, 18, 18, 18, 18] (by simp only [ordO, oG, oS, oE, oZ, oB] <;> rfl)
        replace M := M.pre 18
        have hB0 : y.kind = 0 → seenB B (t'.seen.take (j + 1)) = seenB B (t'.seen.take j) ++ [y.nm] := fun h => by rw [htk, seenB_snoc, if_pos h]
        have hB1 : ¬ y.kind = 0 → seenB B (t'.seen.take (j + 1)) = seenB B (t'.seen.take j) := fun h => by rw [htk, seenB_snoc, if_neg h]
        have hO0 : y.kind = 4 → seenO O (t'.seen.take (j + 1)) = seenO O (t'.seen.take j) ++ [y.nm] := fun h => by rw [htk, seenO_snoc, if_pos h]
        have hO1 : ¬ y.kind = 4 → seenO O (t'.seen.take (j + 1)) = seenO O (t'.seen.take j) := fun h => by rw [htk, seenO_snoc, if_neg h]
        first
          | exact ⟨t'.seen.length - (j + 1), by omega, j + 1, mO3, cO3, _, _, by omega, rfl, hgO3, by rw [hO1 (by omega)]; exact hvO3, hgB3.put y.nm (.int .i64 s'.last), by rw [hB0 (by omega)]; exact hvB3.put y.nm _, S.sub _ rfl, M⟩
          | exact ⟨t'.seen.length - (j + 1), by omega, j + 1, _, _, mB3, cB3, by omega, rfl, hgO3.put y.nm (.int .i64 1), by rw [hO0 (by omega)]; exact hvO3.put y.nm, hgB3, by rw [hB1 (by omega)]; exact hvB3, S.sub _ rfl, M⟩
          | exact ⟨t'.seen.length - (j + 1), by omega, j + 1, mO3, cO3, mB3, cB3, by omega, rfl, hgO3, by rw [hO1 (by omega)]; exact hvO3, hgB3, by rw [hB1 (by omega)]; exact hvB3, S.sub _ rfl, M⟩
          | (exfalso; omega)
      clear S; intro h213 S
      refine st_condT S rfl ?_
      refine nxD ?_
      refine st_go [1, 2] S rfl (by kernel_rfl) ?_; clear S a; intro a S
      refine st_y S rfl rfl rfl (y_loadAgg (cs := [_, _, _]) S (by kernel_rfl) rfl rfl (M.cellsAt (k := 3) 0 rfl rfl)) ?_; clear S a; intro a S
      refine st_updateM (pos := 14) S M (keyNm) (hgO3) (k := y.nm) Try.underlying67 rfl rfl rfl rfl rfl ?_; clear M; intro w49 M
      simp only [List.set_cons_zero, List.set_cons_succ] at M
      refine nxA ?_
      refine st_y S rfl rfl rfl (y_loadAgg (cs := [_, _, _, _]) S (by kernel_rfl) rfl rfl (M.cellsAt (k := 4) 9 rfl rfl)) ?_; clear S a; intro a S
      refine st_go [2] S rfl (by kernel_rfl) ?_; clear S a; intro a S
      refine st_y S rfl rfl rfl (y_loadAgg (cs := [_, _, _]) S (by kernel_rfl) rfl rfl (M.cellsAt (k := 3) 0 rfl rfl)) ?_; clear S a; intro a S
      refine st_call (xs := [(Operand.tmp 217), (Operand.tmp 219)]) S (enters_of Try.func15 (by decide) rfl) rfl rfl rfl (has_any rl'.a rl'.c s'.l s'.last s'.inc (ro'.v s'.over.length) y.nm _ (M.readAll 1 rfl (by unfold maxLen; omega)) ⟨_, _, _, rfl⟩) ?_
      rintro _ w50 ⟨rfl, hK⟩; refine ⟨_, rfl, ?_⟩; clear S a; intro a S; replace M := M.grow hK
      replace S := S.sub [(1, _), (2, _), (5, _), (7, _), (8, _), (9, _), (10, _), (11, _), (12, _), (13, _), (14, _), (18, _), (166, _), (19, _), (21, _), (202, _), (205, _), (213, _), (220, _)] rfl
      refine nxC ?_
      refine st_split (t := 220) S rfl ?_ ?_
      · clear S; intro h220 S
        exfalso
        obtain ⟨o, ho, e⟩ := List.any_eq_true.1 h220
        exact hDI.gone (List.mem_of_getElem? hy) (by omega) o ho (Nm.eqb_iff.1 e)
      clear S; intro h220 S
      refine st_condF S rfl ?_
      refine wp_skip ?_
      refine block_normal ?_
      refine nxF ?_
      refine st_go [1] S rfl (by kernel_rfl) ?_; clear S a; intro a S
      (first | refine st_y S rfl rfl rfl (y_addN S rfl rfl (by omega)) ?_ | refine st_y S rfl rfl rfl (y_int S rfl rfl rfl) ?_); clear S a; intro a S
      refine st_go [1] S rfl (by kernel_rfl) ?_; clear S a; intro a S
      refine nxC ?_
      replace M := M.ord [18, 18, 18, 18, 18, 18, 18, 18, 18, 18, 18, 18, 18, 18, 18, 18, 18, 18] (by simp only [ordO, oG, oS, oE, oZ, oB] <;> rfl)
      replace M := M.pre 18
      have hB0 : y.kind = 0 → seenB B (t'.seen.take (j + 1)) = seenB B (t'.seen.take j) ++ [y.nm] := fun h => by rw [htk, seenB_snoc, if_pos h]
      have hB1 : ¬ y.kind = 0 → seenB B (t'.seen.take (j + 1)) = seenB B (t'.seen.take j) := fun h => by rw [htk, seenB_snoc, if_neg h]
      have hO0 : y.kind = 4 → seenO O (t'.seen.take (j + 1)) = seenO O (t'.seen.take j) ++ [y.nm] := fun h => by rw [htk, seenO_snoc, if_pos h]
      have hO1 : ¬ y.kind = 4 → seenO O (t'.seen.take (j + 1)) = seenO O (t'.seen.take j) := fun h => by rw [htk, seenO_snoc, if_neg h]
      first
        | exact ⟨t'.seen.length - (j + 1), by omega, j + 1, mO3, cO3, _, _, by omega, rfl, hgO3, by rw [hO1 (by omega)]; exact hvO3, hgB3.put y.nm (.int .i64 s'.last), by rw [hB0 (by omega)]; exact hvB3.put y.nm _, S.sub _ rfl, M⟩
        | exact ⟨t'.seen.length - (j + 1), by omega, j + 1, _, _, mB3, cB3, by omega, rfl, hgO3.put y.nm (.int .i64 1), by rw [hO0 (by omega)]; exact hvO3.put y.nm, hgB3, by rw [hB1 (by omega)]; exact hvB3, S.sub _ rfl, M⟩
        | exact ⟨t'.seen.length - (j + 1), by omega, j + 1, mO3, cO3, mB3, cB3, by omega, rfl, hgO3, by rw [hO1 (by omega)]; exact hvO3, hgB3, by rw [hB1 (by omega)]; exact hvB3, S.sub _ rfl, M⟩
        | (exfalso; omega)
    clear S; intro h191 S
    refine st_go [1, 1, 1] S rfl (by kernel_rfl) ?_; clear S a; intro a S
    refine st_if (t := 194) S rfl ?_ ?_
    · clear S; intro h194 S
      refine st_go [0, 0, 0, 0] S rfl (by kernel_rfl) ?_; clear S a; intro a S
      refine st_no S rfl rfl rfl ?_; clear S a; intro a S
      refine st_go [1, 1, 1] S rfl (by kernel_rfl) ?_; clear S a; intro a S
      replace S := S.sub [(1, _), (2, _), (5, _), (7, _), (8, _), (9, _), (10, _), (11, _), (12, _), (13, _), (14, _), (18, _), (166, _), (19, _), (21, _), (202, _)] rfl
      refine nxC ?_
      refine st_condT S rfl ?_
      refine nxD ?_
      refine st_go [1] S rfl (by kernel_rfl) ?_; clear S a; intro a S
      refine nxC ?_
      refine wp_ret ?_
      refine then_ret ?_
      refine block_ret ?_
      refine then_ret ?_
      refine then_ret ?_
      refine block_ret ?_
      refine then_ret ?_
      refine block_ret ?_
      refine then_ret ?_
      refine then_ret ?_
      refine block_ret ?_
      refine then_ret ?_
      refine end_one S rfl (res_tmp rfl) ?_
      first
        | exact ⟨rfl, M.below⟩
        | (exfalso; omega)
        | (exfalso; rcases hcase with ⟨h1, h2, h3⟩ | ⟨h1, h2⟩ <;> simp_all)
    clear S; intro h194 S
    refine st_go [1, 2] S rfl (by kernel_rfl) ?_; clear S a; intro a S
    refine st_y S rfl rfl rfl (y_loadAgg (cs := [_, _, _]) S (by kernel_rfl) rfl rfl (M.cellsAt (k := 3) 0 rfl rfl)) ?_; clear S a; intro a S
    refine st_y S rfl rfl rfl (y_lookupM (pos := 14) S M (keyNm) (hgO3) (k := y.nm) Try.underlying67 (zero_i64) rfl rfl rfl) ?_; clear S a; intro a S
    simp only [Bool.false_eq_true, if_false, hno (by omega)] at S
    refine st_y S rfl rfl rfl (y_int S rfl rfl rfl) ?_; clear S a; intro a S
    refine st_go [1, 1, 1] S rfl (by kernel_rfl) ?_; clear S a; intro a S
    replace S := S.sub [(1, _), (2, _), (5, _), (7, _), (8, _), (9, _), (10, _), (11, _), (12, _), (13, _), (14, _), (18, _), (166, _), (19, _), (21, _), (202, _)] rfl
    refine nxC ?_
    refine st_if (t := 202) S rfl ?_ ?_
    · clear S; intro h202 S
      refine st_condT S rfl ?_
      refine nxD ?_
      refine st_go [1] S rfl (by kernel_rfl) ?_; clear S a; intro a S
      refine nxC ?_
      refine wp_ret ?_
      refine then_ret ?_
      refine block_ret ?_
      refine then_ret ?_
      refine then_ret ?_
      refine block_ret ?_
      refine then_ret ?_
      refine block_ret ?_
      refine then_ret ?_
      refine then_ret ?_
      refine block_ret ?_
      refine then_ret ?_
      refine end_one S rfl (res_tmp rfl) ?_
      first
        | exact ⟨rfl, M.below⟩
        | (exfalso; omega)
        | (exfalso; rcases hcase with ⟨h1, h2, h3⟩ | ⟨h1, h2⟩ <;> simp_all)
    clear S; intro h202 S
    refine st_condF S rfl ?_
    refine wp_skip ?_
    refine then_normal ?_
    refine wp_seq ?_
    refine nxD ?_
    refine st_run [1, 1, 1] S M rfl (by kernel_rfl) ?_; clear S a; intro a S
    refine nxC ?_
    refine st_fi (t := 205) S rfl ?_ ?_
    · clear S; intro h205 S
      refine st_condF S rfl ?_
      refine wp_skip ?_
      refine nxE ?_
      refine st_run [1, 1, 1] S M rfl (by kernel_rfl) ?_; clear S a; intro a S
      refine nxC ?_
      refine st_fi (t := 213) S rfl ?_ ?_
      · clear S; intro h213 S
        refine st_condF S rfl ?_
        refine wp_skip ?_
        refine block_normal ?_
        refine nxF ?_
        refine st_go [1] S rfl (by kernel_rfl) ?_; clear S a; intro a S
        (first | refine st_y S rfl rfl rfl (y_addN S rfl rfl (by omega)) ?_ | refine st_y S rfl rfl rfl (y_int S rfl rfl rfl) ?_); clear S a; intro a S
        refine st_go [1] S rfl (by kernel_rfl) ?_; clear S a; intro a S
        refine nxC ?_
        replace M := M.ord [18, 18, 18, 18, 18, 18, 18, 18, 18, 18, 18, 18, 18, 18, 18, 18, 18, 18] (by simp only [ordO, oG, oS, oE, oZ, oB] <;> rfl)
        replace M := M.pre 18
        have hB0 : y.kind = 0 → seenB B (t'.seen.take (j + 1)) = seenB B (t'.seen.take j) ++ [y.nm] := fun h => by rw [htk, seenB_snoc, if_pos h]
        have hB1 : ¬ y.kind = 0 → seenB B (t'.seen.take (j + 1)) = seenB B (t'.seen.take j) := fun h => by rw [htk, seenB_snoc, if_neg h]
        have hO0 : y.kind = 4 → seenO O (t'.seen.take (j + 1)) = seenO O (t'.seen.take j) ++ [y.nm] := fun h => by rw [htk, seenO_snoc, if_pos h]
        have hO1 : ¬ y.kind = 4 → seenO O (t'.seen.take (j + 1)) = seenO O (t'.seen.take j) := fun h => by rw [htk, seenO_snoc, if_neg h]
        first
          | exact ⟨t'.seen.length - (j + 1), by omega, j + 1, mO3, cO3, _, _, by omega, rfl, hgO3, by rw [hO1 (by omega)]; exact hvO3, hgB3.put y.nm (.int .i64 s'.last), by rw [hB0 (by omega)]; exact hvB3.put y.nm _, S.sub _ rfl, M⟩
          | exact ⟨t'.seen.length - (j + 1), by omega, j + 1, _, _, mB3, cB3, by omega, rfl, hgO3.put y.nm (.int .i64 1), by rw [hO0 (by omega)]; exact hvO3.put y.nm, hgB3, by rw [hB1 (by omega)]; exact hvB3, S.sub _ rfl, M⟩
          | exact ⟨t'.seen.length - (j + 1), by omega, j + 1, mO3, cO3, mB3, cB3, by omega, rfl, hgO3, by rw [hO1 (by omega)]; exact hvO3, hgB3, by rw [hB1 (by omega)]; exact hvB3, S.sub _ rfl, M⟩
          | (exfalso; omega)
      clear S; intro h213 S
      refine st_condT S rfl ?_
      refine nxD ?_
      refine st_go [1, 2] S rfl (by kernel_rfl) ?_; clear S a; intro a S
      refine st_y S rfl rfl rfl (y_loadAgg (cs := [_, _, _]) S (by kernel_rfl) rfl rfl (M.cellsAt (k := 3) 0 rfl rfl)) ?_; clear S a; intro a S
      refine st_updateM (pos := 14) S M (keyNm) (hgO3) (k := y.nm) Try.underlying67 rfl rfl rfl rfl rfl ?_; clear M; intro w46 M
      simp only [List.set_cons_zero, List.set_cons_succ] at M
      refine nxA ?_
      refine st_y S rfl rfl rfl (y_loadAgg (cs := [_, _, _, _]) S (by kernel_rfl) rfl rfl (M.cellsAt (k := 4) 9 rfl rfl)) ?_; clear S a; intro a S
      refine st_go [2] S rfl (by kernel_rfl) ?_; clear S a; intro a S
      refine st_y S rfl rfl rfl (y_loadAgg (cs := [_, _, _]) S (by kernel_rfl) rfl rfl (M.cellsAt (k := 3) 0 rfl rfl)) ?_; clear S a; intro a S
      refine st_call (xs := [(Operand.tmp 217), (Operand.tmp 219)]) S (enters_of Try.func15 (by decide) rfl) rfl rfl rfl (has_any rl'.a rl'.c s'.l s'.last s'.inc (ro'.v s'.over.length) y.nm _ (M.readAll 1 rfl (by unfold maxLen; omega)) ⟨_, _, _, rfl⟩) ?_
      rintro _ w47 ⟨rfl, hK⟩; refine ⟨_, rfl, ?_⟩; clear S a; intro a S; replace M := M.grow hK
      refine nxC ?_
      refine st_split (t := 220) S rfl ?_ ?_
      · clear S; intro h220 S
        exfalso
        obtain ⟨o, ho, e⟩ := List.any_eq_true.1 h220
        exact hDI.gone (List.mem_of_getElem? hy) (by omega) o ho (Nm.eqb_iff.1 e)
      clear S; intro h220 S
      refine st_condF S rfl ?_
      refine wp_skip ?_
      refine block_normal ?_
      refine nxF ?_
      refine st_go [1] S rfl (by kernel_rfl) ?_; clear S a; intro a S
      (first | refine st_y S rfl rfl rfl (y_addN S rfl rfl (by omega)) ?_ | refine st_y S rfl rfl rfl (y_int S rfl rfl rfl) ?_); clear S a; intro a S
      refine st_go [1] S rfl (by kernel_rfl) ?_; clear S a; intro a S
      refine nxC ?_
      replace M := M.ord [18, 18, 18, 18, 18, 18, 18, 18, 18, 18, 18, 18, 18, 18, 18, 18, 18, 18] (by simp only [ordO, oG, oS, oE, oZ, oB] <;> rfl)
      replace M := M.pre 18
      have hB0 : y.kind = 0 → seenB B (t'.seen.take (j + 1)) = seenB B (t'.seen.take j) ++ [y.nm] := fun h => by rw [htk, seenB_snoc, if_pos h]
      have hB1 : ¬ y.kind = 0 → seenB B (t'.seen.take (j + 1)) = seenB B (t'.seen.take j) := fun h => by rw [htk, seenB_snoc, if_neg h]
      have hO0 : y.kind = 4 → seenO O (t'.seen.take (j + 1)) = seenO O (t'.seen.take j) ++ [y.nm] := fun h => by rw [htk, seenO_snoc, if_pos h]
      have hO1 : ¬ y.kind = 4 → seenO O (t'.seen.take (j + 1)) = seenO O (t'.seen.take j) := fun h => by rw [htk, seenO_snoc, if_neg h]
      first
        | exact ⟨t'.seen.length - (j + 1), by omega, j + 1, mO3, cO3, _, _, by omega, rfl, hgO3, by rw [hO1 (by omega)]; exact hvO3, hgB3.put y.nm (.int .i64 s'.last), by rw [hB0 (by omega)]; exact hvB3.put y.nm _, S.sub _ rfl, M⟩
        | exact ⟨t'.seen.length - (j + 1), by omega, j + 1, _, _, mB3, cB3, by omega, rfl, hgO3.put y.nm (.int .i64 1), by rw [hO0 (by omega)]; exact hvO3.put y.nm, hgB3, by rw [hB1 (by omega)]; exact hvB3, S.sub _ rfl, M⟩
        | exact ⟨t'.seen.length - (j + 1), by omega, j + 1, mO3, cO3, mB3, cB3, by omega, rfl, hgO3, by rw [hO1 (by omega)]; exact hvO3, hgB3, by rw [hB1 (by omega)]; exact hvB3, S.sub _ rfl, M⟩
        | (exfalso; omega)
    clear S; intro h205 S
    refine st_condT S rfl ?_
    refine wp_region_lit ?_
    refine st_go [1, 2] S rfl (by kernel_rfl) ?_; clear S a; intro a S
    refine st_y S rfl rfl rfl (y_loadAgg (cs := [_, _, _]) S (by kernel_rfl) rfl rfl (M.cellsAt (k := 3) 0 rfl rfl)) ?_; clear S a; intro a S
    refine st_run [2, 10] S M rfl (by kernel_rfl) ?_; clear S a; intro a S
    refine st_updateM (pos := 15) S M (keyNm) (hgB3) (k := y.nm) Try.underlying67 rfl rfl rfl rfl rfl ?_; clear M; intro w43 M
    simp only [List.set_cons_zero, List.set_cons_succ] at M
    refine nxA ?_
    refine st_run [1, 1, 1] S M rfl (by kernel_rfl) ?_; clear S a; intro a S
    refine nxC ?_
    refine st_fi (t := 213) S rfl ?_ ?_
    · clear S; intro h213 S
      refine st_condF S rfl ?_
      refine wp_skip ?_
      refine block_normal ?_
      refine nxF ?_
      refine st_go [1] S rfl (by kernel_rfl) ?_; clear S a; intro a S
      (first | refine st_y S rfl rfl rfl (y_addN S rfl rfl (by omega)) ?_ | refine st_y S rfl rfl rfl (y_int S rfl rfl rfl) ?_); clear S a; intro a S
      refine st_go [1] S rfl (by kernel_rfl) ?_; clear S a; intro a S
      refine nxC ?_
      replace M := M.ord [18, 18, 18, 18, 18, 18, 18, 18, 18, 18, 18, 18, 18, 18, 18, 18, 18, 18] (by simp only [ordO, oG, oS, oE, oZ, oB] <;> rfl)
      replace M := M.pre 18
      have hB0 : y.kind = 0 → seenB B (t'.seen.take (j + 1)) = seenB B (t'.seen.take j) ++ [y.nm] := fun h => by rw [htk, seenB_snoc, if_pos h]
      have hB1 : ¬ y.kind = 0 → seenB B (t'.seen.take (j + 1)) = seenB B (t'.seen.take j) := fun h => by rw [htk, seenB_snoc, if_neg h]
      have hO0 : y.kind = 4 → seenO O (t'.seen.take (j + 1)) = seenO O (t'.seen.take j) ++ [y.nm] := fun h => by rw [htk, seenO_snoc, if_pos h]
      have hO1 : ¬ y.kind = 4 → seenO O (t'.seen.take (j + 1)) = seenO O (t'.seen.take j) := fun h => by rw [htk, seenO_snoc, if_neg h]
      first
        | exact ⟨t'.seen.length - (j + 1), by omega, j + 1, mO3, cO3, _, _, by omega, rfl, hgO3, by rw [hO1 (by omega)]; exact hvO3, hgB3.put y.nm (.int .i64 s'.last), by rw [hB0 (by omega)]; exact hvB3.put y.nm _, S.sub _ rfl, M⟩
        | exact ⟨t'.seen.length - (j + 1), by omega, j + 1, _, _, mB3, cB3, by omega, rfl, hgO3.put y.nm (.int .i64 1), by rw [hO0 (by omega)]; exact hvO3.put y.nm, hgB3, by rw [hB1 (by omega)]; exact hvB3, S.sub _ rfl, M⟩
        | exact ⟨t'.seen.length - (j + 1), by omega, j + 1, mO3, cO3, mB3, cB3, by omega, rfl, hgO3, by rw [hO1 (by omega)]; exact hvO3, hgB3, by rw [hB1 (by omega)]; exact hvB3, S.sub _ rfl, M⟩
        | (exfalso; omega)
    clear S; intro h213 S
    refine st_condT S rfl ?_
    refine nxD ?_
    refine st_go [1, 2] S rfl (by kernel_rfl) ?_; clear S a; intro a S
    refine st_y S rfl rfl rfl (y_loadAgg (cs := [_, _, _]) S (by kernel_rfl) rfl rfl (M.cellsAt (k := 3) 0 rfl rfl)) ?_; clear S a; intro a S
    refine st_updateM (pos := 14) S M (keyNm) (hgO3) (k := y.nm) Try.underlying67 rfl rfl rfl rfl rfl ?_; clear M; intro w44 M
    simp only [List.set_cons_zero, List.set_cons_succ] at M
    refine nxA ?_
    refine st_y S rfl rfl rfl (y_loadAgg (cs := [_, _, _, _]) S (by kernel_rfl) rfl rfl (M.cellsAt (k := 4) 9 rfl rfl)) ?_; clear S a; intro a S
    refine st_go [2] S rfl (by kernel_rfl) ?_; clear S a; intro a S
    refine st_y S rfl rfl rfl (y_loadAgg (cs := [_, _, _]) S (by kernel_rfl) rfl rfl (M.cellsAt (k := 3) 0 rfl rfl)) ?_; clear S a; intro a S
    refine st_call (xs := [(Operand.tmp 217), (Operand.tmp 219)]) S (enters_of Try.func15 (by decide) rfl) rfl rfl rfl (has_any rl'.a rl'.c s'.l s'.last s'.inc (ro'.v s'.over.length) y.nm _ (M.readAll 1 rfl (by unfold maxLen; omega)) ⟨_, _, _, rfl⟩) ?_
    rintro _ w45 ⟨rfl, hK⟩; refine ⟨_, rfl, ?_⟩; clear S a; intro a S; replace M := M.grow hK
    replace S := S.sub [(1, _), (2, _), (5, _), (7, _), (8, _), (9, _), (10, _), (11, _), (12, _), (13, _), (14, _), (18, _), (166, _), (19, _), (21, _), (202, _), (205, _), (213, _), (220, _)] rfl
    refine nxC ?_
    refine st_split (t := 220) S rfl ?_ ?_
    · clear S; intro h220 S
      exfalso
      obtain ⟨o, ho, e⟩ := List.any_eq_true.1 h220
      exact hDI.gone (List.mem_of_getElem? hy) (by omega) o ho (Nm.eqb_iff.1 e)
    clear S; intro h220 S
    refine st_condF S rfl ?_
    refine wp_skip ?_
    refine block_normal ?_
    refine nxF ?_
    refine st_go [1] S rfl (by kernel_rfl) ?_; clear S a; intro a S
    (first | refine st_y S rfl rfl rfl (y_addN S rfl rfl (by omega)) ?_ | refine st_y S rfl rfl rfl (y_int S rfl rfl rfl) ?_); clear S a; intro a S
    refine st_go [1] S rfl (by kernel_rfl) ?_; clear S a; intro a S
    refine nxC ?_
    replace M := M.ord [18, 18, 18, 18, 18, 18, 18, 18, 18, 18, 18, 18, 18, 18, 18, 18, 18, 18] (by simp only [ordO, oG, oS, oE, oZ, oB] <;> rfl)
    replace M := M.pre 18
    have hB0 : y.kind = 0 → seenB B (t'.seen.take (j + 1)) = seenB B (t'.seen.take j) ++ [y.nm] := fun h => by rw [htk, seenB_snoc, if_pos h]
    have hB1 : ¬ y.kind = 0 → seenB B (t'.seen.take (j + 1)) = seenB B (t'.seen.take j) := fun h => by rw [htk, seenB_snoc, if_neg h]
    have hO0 : y.kind = 4 → seenO O (t'.seen.take (j + 1)) = seenO O (t'.seen.take j) ++ [y.nm] := fun h => by rw [htk, seenO_snoc, if_pos h]
    have hO1 : ¬ y.kind = 4 → seenO O (t'.seen.take (j + 1)) = seenO O (t'.seen.take j) := fun h => by rw [htk, seenO_snoc, if_neg h]
    first
      | exact ⟨t'.seen.length - (j + 1), by omega, j + 1, mO3, cO3, _, _, by omega, rfl, hgO3, by rw [hO1 (by omega)]; exact hvO3, hgB3.put y.nm (.int .i64 s'.last), by rw [hB0 (by omega)]; exact hvB3.put y.nm _, S.sub _ rfl, M⟩
      | exact ⟨t'.seen.length - (j + 1), by omega, j + 1, _, _, mB3, cB3, by omega, rfl, hgO3.put y.nm (.int .i64 1), by rw [hO0 (by omega)]; exact hvO3.put y.nm, hgB3, by rw [hB1 (by omega)]; exact hvB3, S.sub _ rfl, M⟩
      | exact ⟨t'.seen.length - (j + 1), by omega, j + 1, mO3, cO3, mB3, cB3, by omega, rfl, hgO3, by rw [hO1 (by omega)]; exact hvO3, hgB3, by rw [hB1 (by omega)]; exact hvB3, S.sub _ rfl, M⟩
      | (exfalso; omega)
  clear S a M; intro a wc
  rintro ⟨s2, rl2, ro2, of2, f2, B2, O2, u2, mC2, cC2, mO2, cO2, mB2, cB2, mU2, cU2, hI2, S, M⟩
  refine wp_region_lit ?_
  refine st_go [1] S rfl (by kernel_rfl) ?_; clear S a; intro a S
  (first | refine st_y S rfl rfl rfl (y_addN S rfl rfl (by omega)) ?_ | refine st_y S rfl rfl rfl (y_int S rfl rfl rfl) ?_); clear S a; intro a S
  refine st_go [1] S rfl (by kernel_rfl) ?_; clear S a; intro a S
  refine nxC ?_
  exact ⟨l.length - (k + 1), by omega, k + 1, s2, rl2, ro2, of2, f2, B2, O2, u2, mC2, cC2, mO2, cO2, mB2, cB2, mU2, cU2, by omega, rfl, hI2, S.sub _ rfl, M⟩
end Go.Proofs.Ytniijiipkfhjgaa

namespace Go.Proofs.Ytniijiipkfhjgaa
open Go.ChangeShapes Go.WideShapes Go.ChangeAt Go.RowKit Go.Joins
theorem Try.own : ownKnob Try.prog.godebug = none := by kernel_rfl
theorem Try.laidOut : laidOutB Try.prog = true := by kernel_rfl
section
variable {H : Type} {enc : TypeId × Value → H} {P : Program}
/-- arguments read as they read, through the same places, where what lay lies as it lay -/
theorem trodAll_stays (hl : laidOutB P = true) {W W' : World} (hb : Below W.heap.size W W') {sp : Nat → Bool} : ∀ (ts : List TypeId) (vs : List Value) (ds : List (DataW H)) (ps : List MemPlace),
    (∀ t ∈ ts, P.readableRec t = true ∧ t < P.types.size) → (∀ p ∈ ps, p.block < W.heap.size ∧ sp p.block = true) →
    DataW.TrodAll enc P W 0 (fun _ => true) true ts vs ds ps → DataW.TrodAll enc P W' 0 sp true ts vs ds ps
  | [], vs, ds, ps, _, _, h => by
    obtain ⟨rfl, rfl, rfl⟩ := trodAll_nil h
    exact trodAll_mk0
  | t :: ts, vs, ds, ps, ht, hp, h => by
    obtain ⟨v, vs', d, ds', p, q, rfl, rfl, rfl, h0, h1⟩ := trodAll_cons h
    exact trodAll_cons_mk (WideElems.Trod_stays hl (ht t (by simp)).1 (ht t (by simp)).2 h0 (fun x hx => hb.same (hp x (by simp [hx])).1) (fun x hx => (hp x (by simp [hx])).2))
      (trodAll_stays hl hb ts vs' ds' q (fun t' h' => ht t' (by simp [h'])) (fun x hx => hp x (by simp [hx])) h1)
/-- A LAW's conclusion: true came back, nothing that lay has turned, the specification says 'true, the arguments as they were' -/
theorem law_post {f : Func} {s : ChangeSpec} {apart fresh handsOn again : Bool} {W W' : World} {args : Array Value} {ds gs : List (DataW H)} {before : List MemPlace} {tb : TypeId}
    (hl : laidOutB P = true) (hts : ∀ t ∈ f.params.toList, P.readableRec t = true ∧ t < P.types.size) (hv : s.vars = []) (hrt : f.resultTypes = #[tb]) (htb : P.underlying tb = some .bool)
    (hs : ∀ ds : List (DataW H), ds.length = f.params.size → s.fn H ds = { results := [.lit (.bool true)], args := ds })
    (hW : DataW.Whole enc P f.params.toList s.vars apart W args.toList ds gs before) (hb : Below W.heap.size W W') : s.post enc P f apart fresh handsOn again W args (.bool true) W' := by
  have hlt : ∀ p ∈ before, p.block < W.heap.size := fun p hp => hW.lt p hp
  have hW' := hW
  obtain ⟨p, q, hA, hV, rfl, hfz, hnd⟩ := hW
  rw [hv] at hV
  obtain ⟨rfl, rfl⟩ := trodVars_none hV
  have hlen : ds.length = f.params.size := by
    have : ∀ (ts : List TypeId) (vs : List Value) (ds : List (DataW H)) (ps : List MemPlace), DataW.TrodAll enc P W 0 (fun _ => true) true ts vs ds ps → ds.length = ts.length := by
      intro ts
      induction ts with
      | nil => intro vs ds ps h; obtain ⟨_, rfl, _⟩ := trodAll_nil h; rfl
      | cons t ts ih => intro vs ds ps h; obtain ⟨v, vs', d, ds', p, q, _, rfl, _, _, h1⟩ := trodAll_cons h; simp [ih _ _ _ h1]
    simpa using this _ _ _ _ hA
  have e := hs ds hlen
  have args_read : ∀ sp : Nat → Bool, (∀ x ∈ p ++ [], sp x.block = true) → DataW.TrodAll enc P W' 0 sp true f.params.toList args.toList ds p := fun sp hsp =>
    trodAll_stays hl hb _ _ _ _ hts (fun x hx => ⟨hlt x (by simp [hx]), hsp x (by simp [hx])⟩) hA
  have res_read : ∀ (b : Nat) (sp : Nat → Bool) (hd : Bool), DataW.TrodAll enc P W' b sp hd f.resultTypes.toList (Value.resultList f.resultTypes.size (.bool true)) [.lit (.bool true)] [] := fun b sp hd => by
    rw [hrt]; exact trodAll_mk1 (shut_bool htb _)
  have no_vars : ∀ sp : Nat → Bool, DataW.TrodVars enc P W' sp s.vars ([] : List (DataW H)) [] := fun sp => by rw [hv]; rfl
  have hold : ∀ x ∈ p ++ [], (fun b => decide (b < W.heap.size)) x.block = true := fun x hx => by simpa using hlt x hx
  have e' : s.fn H (ds ++ []) = { results := [.lit (.bool true)], args := ds } := by rw [List.append_nil]; exact e
  refine ⟨ds, [], p ++ [], [], p, [], hW', ?_, ?_, ?_, World.keptBut_mono (fun x hx => ⟨hx, ?_⟩) (hb.frame (· ∈ p ++ [])), fun _ => ?_⟩
  · rw [e']; exact res_read _ _ _
  · rw [e']; exact args_read _ hold
  · rw [e']; exact no_vars _
  · exact Or.inr (by simpa using hx)
  · refine ⟨ok_one hrt rfl (okWide_bool_mk htb _), _, _, ([] ++ p) ++ [], ⟨[] ++ p, [], trodAll_append (args_read _ (fun _ _ => rfl)) (res_read _ _ _), no_vars _, rfl, fun b off hx => ?_, fun ha => by simpa using hnd ha⟩, fun x hx _ => by simpa using hx⟩
    have hin : MemPlace.cell b off ∈ p ++ [] := by simpa using hx
    rw [hb.frozen (hlt _ hin)]
    exact hfz b off hin
end
end Go.Proofs.Ytniijiipkfhjgaa
namespace Go.Proofs.Ytniijiipkfhjgaa
open Go.ChangeShapes Go.WideShapes Go.ChangeAt Go.RowKit Go.Joins
section
variable {H : Type} {enc : TypeId × Value → H} {P : Program} {W : World} {base : Nat} {t : TypeId} {v : Value} {d : DataW H} {ps : List MemPlace}
theorem cells_one {x : Value} (h : v.cells.toList = [x]) (hna : ∀ cs, v ≠ .agg cs) : v = x := by
  cases v <;> first | exact absurd rfl (hna _) | (simp [Value.cells] at h; exact h)
end
end Go.Proofs.Ytniijiipkfhjgaa
namespace Go.Proofs.Ytniijiipkfhjgaa
open Go.ChangeShapes Go.WideShapes Go.ChangeAt Go.RowKit Go.Joins
section
variable {H : Type} {enc : TypeId × Value → H} {P : Program} {W : World} {base : Nat} {t : TypeId} {v : Value} {d : DataW H} {ps : List MemPlace}
end
end Go.Proofs.Ytniijiipkfhjgaa
namespace Go.Proofs.Ytniijiipkfhjgaa
open Go.ChangeShapes Go.WideShapes Go.ChangeAt Go.RowKit Go.Joins
section
variable {H : Type} {enc : TypeId × Value → H} {P : Program} {W : World} {t : TypeId} {cs : List Value}
/-- these cells read as data of the type t -/
def Rdt (enc : TypeId × Value → H) (P : Program) (W : World) (t : TypeId) (cs : List Value) : Prop := ∃ n x, DataW.trod enc P W 0 (fun _ => true) true n t cs = some x
theorem Rdt.int {k : IntKind} (h : Rdt enc P W t cs) (ht : P.underlying t = some (.int k)) : ∃ z, cs = [.int k z] ∧ k.min ≤ z ∧ z ≤ k.max := by
  obtain ⟨n, x, h⟩ := h
  obtain ⟨z, e, -, hw⟩ := DataW.trod_int ht h
  simp only [Lit.wf, Bool.and_eq_true, decide_eq_true_eq] at hw
  exact ⟨z, e, hw⟩
theorem Rdt.i64 (h : Rdt enc P W t cs) (ht : P.underlying t = some (.int .i64)) : ∃ z, cs = [.int .i64 z] ∧ -9223372036854775808 ≤ z ∧ z ≤ 9223372036854775807 := by
  obtain ⟨z, e, h1, h2⟩ := h.int ht
  have e1 : IntKind.i64.min = -9223372036854775808 := rfl
  have e2 : IntKind.i64.max = 9223372036854775807 := rfl
  exact ⟨z, e, by omega, by omega⟩
theorem Rdt.u8 (h : Rdt enc P W t cs) (ht : P.underlying t = some (.int .u8)) : ∃ b : UInt8, cs = [.int .u8 (b.toNat : Int)] := by
  obtain ⟨z, e, h1, h2⟩ := h.int ht
  have e1 : IntKind.u8.min = 0 := rfl
  have e2 : IntKind.u8.max = 255 := rfl
  refine ⟨UInt8.ofNat z.toNat, ?_⟩
  rw [e]; simp; omega
theorem Rdt.bool (h : Rdt enc P W t cs) (ht : P.underlying t = some .bool) : ∃ b, cs = [.bool b] := by
  obtain ⟨n, x, h⟩ := h
  obtain ⟨b, e, -⟩ := DataW.trod_bool ht h
  exact ⟨b, e⟩
theorem Rdt.len_struct {fs : Array Field} (h : Rdt enc P W t cs) (ht : P.underlying t = some (.struct fs)) : cs.length = P.cellsOf t := by
  obtain ⟨n, x, h⟩ := h
  obtain ⟨xs, m, -, -, hl, -, -⟩ := DataW.trod_struct ht h
  exact hl
theorem Rdt.field {fs : Array Field} (h : Rdt enc P W t cs) (ht : P.underlying t = some (.struct fs)) (i : Nat) {f : Field} (hf : fs[i]? = some f) {k : Nat} (hk : P.cellsOf f.type = k) : Rdt enc P W f.type ((cs.drop f.offset).take k) := by
  obtain ⟨n, x, h⟩ := h
  obtain ⟨xs, m, -, -, hl, hlen, hx⟩ := DataW.trod_struct ht h
  have hlt : i < xs.length := by rw [hlen]; exact (Array.getElem?_eq_some_iff.1 hf).1
  subst hk
  exact ⟨m, xs[i], by rw [← List.getElem?_eq_getElem hlt]; exact hx i f hf⟩
theorem Rdt.len_array {m : Nat} {e : TypeId} (h : Rdt enc P W t cs) (ht : P.underlying t = some (.array m e)) : cs.length = P.cellsOf t := by
  obtain ⟨n, x, h⟩ := h
  obtain ⟨xs, m, -, -, hl, -, -⟩ := DataW.trod_array ht h
  exact hl
theorem Rdt.elem {m : Nat} {e : TypeId} (h : Rdt enc P W t cs) (ht : P.underlying t = some (.array m e)) {k : Nat} (hk : P.cellsOf e = k) (i : Nat) (hi : i < m) : Rdt enc P W e ((cs.drop (i * k)).take k) := by
  obtain ⟨n, x, h⟩ := h
  obtain ⟨xs, q, -, -, hl, hlen, hx⟩ := DataW.trod_array ht h
  have hlt : i < xs.length := by rw [hlen]; exact hi
  subst hk
  exact ⟨q, xs[i], by rw [← List.getElem?_eq_getElem hlt]; exact hx i hi⟩
theorem list_of {α : Type} {Q : Nat → α → Prop} : ∀ (n : Nat), (∀ i, i < n → ∃ a, Q i a) → ∃ xs : List α, xs.length = n ∧ ∀ i a, xs[i]? = some a → Q i a
  | 0, _ => ⟨[], rfl, fun i a h => by simp at h⟩
  | n + 1, h => by
    obtain ⟨xs, hl, hx⟩ := list_of n (fun i hi => h i (by omega))
    obtain ⟨a, ha⟩ := h n (by omega)
    refine ⟨xs ++ [a], by simp [hl], fun i b hb => ?_⟩
    rcases Nat.lt_or_ge i n with hi | hi
    · rw [List.getElem?_append_left (by omega)] at hb; exact hx i b hb
    · rw [List.getElem?_append_right (by omega)] at hb
      have : i - xs.length = 0 := by
        rcases Nat.eq_zero_or_pos (i - xs.length) with h0 | h0
        · exact h0
        · rw [List.getElem?_eq_none (by simp; omega)] at hb; cases hb
      rw [this] at hb
      obtain rfl : a = b := by simpa using hb
      obtain rfl : i = n := by omega
      exact ha
theorem addr_add2 (ad : Addr) (m j : Nat) : (ad.add m).add j = ad.add (m + j) := by
  unfold Addr.add
  by_cases h1 : m = 0
  · subst h1; simp
  · by_cases h2 : j = 0
    · subst h2; simp
    · simp [h1, h2, Nat.add_assoc]
theorem flat_get {sz : Nat} : ∀ (l : List (List Value)) (i j : Nat) (r : List Value), (∀ r ∈ l, r.length = sz) → l[i]? = some r → j < sz → l.flatten[i * sz + j]? = r[j]?
  | [], i, j, r, _, h, _ => by simp at h
  | x :: l, 0, j, r, hl, h, hj => by
    obtain rfl : x = r := by simpa using h
    have := hl x (by simp)
    rw [Nat.zero_mul, Nat.zero_add, List.flatten_cons, List.getElem?_append_left (by omega)]
  | x :: l, i + 1, j, r, hl, h, hj => by
    have hx := hl x (by simp)
    have := flat_get l i j r (fun q hq => hl q (by simp [hq])) (by simpa using h) hj
    rw [List.flatten_cons, List.getElem?_append_right (by rw [hx, Nat.succ_mul]; omega), ← this, hx]
    congr 1; rw [Nat.succ_mul]; omega
theorem flat_len {sz : Nat} : ∀ (l : List (List Value)), (∀ r ∈ l, r.length = sz) → l.flatten.length = l.length * sz
  | [], _ => by simp
  | x :: l, hl => by rw [List.flatten_cons, List.length_append, flat_len l (fun q hq => hl q (by simp [hq])), hl x (by simp), List.length_cons, Nat.succ_mul]; omega
/-- a slice of any elements: it reads as rows, each of which is some element -/
theorem Rdt.rows {α : Type} {Φ : α → List Value → Prop} {e sz : Nat} (h : Rdt enc P W t cs) (ht : P.underlying t = some (.slice e)) (hc : P.cellsOf e = sz) (hsz : 0 < sz) (hl : ∀ a cs, Φ a cs → cs.length = sz) (he : ∀ cs, Rdt enc P W e cs → ∃ a, Φ a cs) :
    ∃ u css, ∃ xs : List α, cs = [u] ∧ Rd 0 W.heap.size W sz u xs.length css ∧ ∀ i a, xs[i]? = some a → Φ a ((css.drop (i * sz)).take sz) := by
  obtain ⟨n, x, h⟩ := h
  rcases DataW.trod_slice ht h with ⟨rfl, -⟩ | ⟨ad, len, cap, elems, rest, m, -, rfl, -, -, hlc, hcm, hlen, hel, -, -⟩
  · exact ⟨_, [], [], rfl, Rd.nil _ _ _ _, fun i a h => by simp at h⟩
  · have each : ∀ i, i < len → ∃ q : α × List Value, W.cells? 0 (ad.add (i * sz)) sz = some q.2 ∧ Φ q.1 q.2 := fun i hi => by
      have h1 := hel i hi
      rw [hc, List.getElem?_eq_getElem (by omega)] at h1
      obtain ⟨r, h2, h3⟩ := Option.bind_eq_some_iff.1 h1
      obtain ⟨a, ha⟩ := he r ⟨m, _, h3⟩
      exact ⟨(a, r), h2, ha⟩
    obtain ⟨qs, hql, hq⟩ := list_of len each
    have hrl : ∀ r ∈ qs.map (·.2), r.length = sz := fun r hr => by
      obtain ⟨q, hq1, rfl⟩ := List.mem_map.1 hr
      obtain ⟨i, hi⟩ := List.getElem?_of_mem hq1
      exact hl _ _ (hq i q hi).2
    have hcell : ∀ i j (r : List Value), (qs.map (·.2))[i]? = some r → j < sz → W.cell? (ad.add (i * sz + j)) = r[j]? := fun i j r hr hj => by
      rw [List.getElem?_map, Option.map_eq_some_iff] at hr
      obtain ⟨q, hq1, rfl⟩ := hr
      obtain ⟨-, h2, h3⟩ := World.cells?_some (hq i q hq1).1
      have := h3 j hj
      rw [← this, addr_add2]
    have hfl := flat_len (qs.map (·.2)) hrl
    rw [List.length_map, hql] at hfl
    have hsp : 0 < len → ad.spot = none ∧ ad.block < W.heap.size := fun h0 => by
      obtain ⟨q, hq0⟩ : ∃ q, qs[0]? = some q := ⟨_, List.getElem?_eq_getElem (by omega)⟩
      have hr0 : (qs.map (·.2))[0]? = some q.2 := by simp [hq0]
      have h1 := hcell 0 0 q.2 hr0 hsz
      have hq2 := hrl q.2 (List.mem_of_getElem? hr0)
      rw [Nat.zero_mul, Nat.add_zero, show ad.add 0 = ad from rfl, List.getElem?_eq_getElem (by omega)] at h1
      refine ⟨?_, block_lt_of_cell h1⟩
      unfold World.cell? at h1
      split at h1
      · split at h1
        · cases h1
        · rename_i hs; simpa using hs
      · cases h1
    refine ⟨_, (qs.map (·.2)).flatten, qs.map (·.1), rfl, ?_, fun i a ha => ?_⟩
    · rw [List.length_map, hql]
      refine ⟨hfl, by omega, .inr ⟨ad, cap, rfl, hlc, hcm, fun j hj => ?_, fun h0 => ⟨(hsp h0).1, Nat.zero_le _, (hsp h0).2⟩⟩⟩
      rw [hfl] at hj
      have hlen0 : 0 < len := by rcases Nat.eq_zero_or_pos len with h | h; · rw [h] at hj; simp at hj
                                 · exact h
      have hi : j / sz < len := Nat.div_lt_of_lt_mul (by rw [Nat.mul_comm]; exact hj)
      have hm := Nat.mod_lt j hsz
      have ej : j = j / sz * sz + j % sz := by rw [Nat.mul_comm]; exact (Nat.div_add_mod j sz).symm
      obtain ⟨q, hq1⟩ : ∃ q, qs[j / sz]? = some q := ⟨_, List.getElem?_eq_getElem (by omega)⟩
      have hr1 : (qs.map (·.2))[j / sz]? = some q.2 := by simp [hq1]
      have h1 := hcell (j / sz) (j % sz) q.2 hr1 hm
      have h2 := flat_get _ (j / sz) (j % sz) q.2 hrl hr1 hm
      rw [← ej] at h1 h2
      rw [h2, ← h1]
      obtain ⟨b, o, sp⟩ := ad
      have : sp = none := (hsp hlen0).1
      subst this
      rw [addr_add]
    · rw [List.getElem?_map, Option.map_eq_some_iff] at ha
      obtain ⟨q, hq1, rfl⟩ := ha
      have hr1 : (qs.map (·.2))[i]? = some q.2 := by simp [hq1]
      have hq2 := hrl q.2 (List.mem_of_getElem? hr1)
      have : ((qs.map (·.2)).flatten.drop (i * sz)).take sz = q.2 := by
        apply List.ext_getElem?
        intro j
        rcases Nat.lt_or_ge j sz with hj | hj
        · rw [List.getElem?_take_of_lt hj, List.getElem?_drop, flat_get _ i j q.2 hrl hr1 hj]
        · rw [List.getElem?_eq_none (by simp; omega), List.getElem?_eq_none (by omega)]
      rw [this]
      exact (hq i q hq1).2
theorem rows_flat {α : Type} {f : α → List Value} {sz : Nat} : ∀ (xs : List α) (css : List Value), css.length = xs.length * sz → (∀ a, (f a).length = sz) → (∀ i a, xs[i]? = some a → (css.drop (i * sz)).take sz = f a) → css = xs.flatMap f
  | [], css, hl, _, _ => by simpa using List.eq_nil_of_length_eq_zero (by simpa using hl)
  | x :: xs, css, hl, hf, h => by
    have h0 := h 0 x rfl
    rw [Nat.zero_mul, List.drop_zero] at h0
    have hr := rows_flat xs (css.drop sz) (by rw [List.length_drop, hl, List.length_cons, Nat.succ_mul]; omega) hf (fun i a hi => by
      have := h (i + 1) a (by simpa using hi)
      rw [List.drop_drop, ← this]; congr 2; rw [Nat.succ_mul]; omega)
    rw [List.flatMap_cons, ← h0, ← hr, List.take_append_drop]
/-- the same, where an element's cells are its own -/
theorem Rdt.flat {α : Type} {f : α → List Value} {e sz : Nat} (h : Rdt enc P W t cs) (ht : P.underlying t = some (.slice e)) (hc : P.cellsOf e = sz) (hsz : 0 < sz) (hl : ∀ a, (f a).length = sz) (he : ∀ cs, Rdt enc P W e cs → ∃ a, cs = f a) :
    ∃ u, ∃ xs : List α, cs = [u] ∧ Rd 0 W.heap.size W sz u xs.length (xs.flatMap f) := by
  obtain ⟨u, css, xs, rfl, hR, hx⟩ := h.rows (Φ := fun a cs => cs = f a) ht hc hsz (fun a cs h => by rw [h]; exact hl a) he
  rw [rows_flat xs css hR.1 hl hx] at hR
  exact ⟨u, xs, rfl, hR⟩
/-- an argument of a slice's type -/
theorem rdt_slice {e : TypeId} {base : Nat} {v : Value} {d : DataW H} {ps : List MemPlace} (ht : P.underlying t = some (.slice e)) (hv : Value.okWide P W .any base t v) (h : DataW.Trod enc P W 0 (fun _ => true) true t v d ps) : ∃ cs : List Value, Rdt enc P W t cs ∧ ∀ u, cs = [u] → v = u := by
  obtain ⟨fuel, h⟩ := h
  refine ⟨_, ⟨fuel, _, h⟩, fun u hu => ?_⟩
  unfold Value.okWide at hv
  simp only [ht] at hv
  have hv' : Cell.okWide P W .any base t v := hv
  have hna : ∀ cs, v ≠ .agg cs := fun cs hc => by subst hc; simp [Cell.okWide, Cell.ok, ht] at hv'
  exact cells_one hu hna
end
end Go.Proofs.Ytniijiipkfhjgaa

namespace Go.Proofs.Ytniijiipkfhjgaa
open Go.ChangeShapes Go.WideShapes Go.ChangeAt Go.RowKit Go.Joins
section
variable {H : Type} {enc : TypeId × Value → H} {W : World} {cs : List Value}
theorem rdt_nm (h : Rdt enc Try.prog W 40 cs) : ∃ n : Nm, cs = n.cells.toList := by
  have hl := h.len_struct Try.underlying40
  rw [show Try.prog.cellsOf 40 = 3 by kernel_rfl] at hl
  match cs, hl with
  | [c0, c1, c2], _ =>
    have k1 : Try.prog.cellsOf 3 = 1 := by kernel_rfl
    obtain ⟨z0, e0, -⟩ := (show Rdt enc Try.prog W 3 [c0] from h.field Try.underlying40 0 rfl k1).i64 Try.underlying3
    obtain ⟨z1, e1, -⟩ := (show Rdt enc Try.prog W 3 [c1] from h.field Try.underlying40 1 rfl k1).i64 Try.underlying3
    obtain ⟨z2, e2, -⟩ := (show Rdt enc Try.prog W 3 [c2] from h.field Try.underlying40 2 rfl k1).i64 Try.underlying3
    cases e0; cases e1; cases e2
    exact ⟨⟨z0, z1, z2⟩, rfl⟩
theorem rdt_v8 (h : Rdt enc Try.prog W 42 cs) : ∃ v : V8, cs = v.cellsL := by
  have hl := h.len_array Try.underlying42
  rw [show Try.prog.cellsOf 42 = 8 by kernel_rfl] at hl
  match cs, hl with
  | [c0, c1, c2, c3, c4, c5, c6, c7], _ =>
    have k1 : Try.prog.cellsOf 5 = 1 := by kernel_rfl
    obtain ⟨z0, e0⟩ := (show Rdt enc Try.prog W 5 [c0] from h.elem Try.underlying42 k1 0 (by omega)).u8 Try.underlying5
    obtain ⟨z1, e1⟩ := (show Rdt enc Try.prog W 5 [c1] from h.elem Try.underlying42 k1 1 (by omega)).u8 Try.underlying5
    obtain ⟨z2, e2⟩ := (show Rdt enc Try.prog W 5 [c2] from h.elem Try.underlying42 k1 2 (by omega)).u8 Try.underlying5
    obtain ⟨z3, e3⟩ := (show Rdt enc Try.prog W 5 [c3] from h.elem Try.underlying42 k1 3 (by omega)).u8 Try.underlying5
    obtain ⟨z4, e4⟩ := (show Rdt enc Try.prog W 5 [c4] from h.elem Try.underlying42 k1 4 (by omega)).u8 Try.underlying5
    obtain ⟨z5, e5⟩ := (show Rdt enc Try.prog W 5 [c5] from h.elem Try.underlying42 k1 5 (by omega)).u8 Try.underlying5
    obtain ⟨z6, e6⟩ := (show Rdt enc Try.prog W 5 [c6] from h.elem Try.underlying42 k1 6 (by omega)).u8 Try.underlying5
    obtain ⟨z7, e7⟩ := (show Rdt enc Try.prog W 5 [c7] from h.elem Try.underlying42 k1 7 (by omega)).u8 Try.underlying5
    cases e0; cases e1; cases e2; cases e3; cases e4; cases e5; cases e6; cases e7
    exact ⟨⟨z0, z1, z2, z3, z4, z5, z6, z7⟩, rfl⟩
theorem rdt_wr (h : Rdt enc Try.prog W 122 cs) : ∃ x : Wr, cs = x.cellsL := by
  have hl := h.len_struct Try.underlying122
  rw [show Try.prog.cellsOf 122 = 9 by kernel_rfl] at hl
  match cs, hl with
  | [c0, c1, c2, c3, c4, c5, c6, c7, c8], _ =>
    obtain ⟨z0, e0, -⟩ := (show Rdt enc Try.prog W 3 [c0] from h.field Try.underlying122 0 rfl (k := 1) (by kernel_rfl)).i64 Try.underlying3
    obtain ⟨v, e1⟩ := rdt_v8 (show Rdt enc Try.prog W 42 [c1, c2, c3, c4, c5, c6, c7, c8] from h.field Try.underlying122 1 rfl (k := 8) (by kernel_rfl))
    cases e0
    exact ⟨⟨z0, v⟩, by rw [e1]⟩
theorem rdt_ws {t : TypeId} (h : Rdt enc Try.prog W t cs) (ht : Try.prog.underlying t = some (.slice 122)) : ∃ u x, cs = [u] ∧ Ws 0 W.heap.size W u x :=
  h.flat (f := Wr.cellsL) ht (by kernel_rfl) (by omega) (fun _ => rfl) (fun _ h => rdt_wr h)
end
end Go.Proofs.Ytniijiipkfhjgaa

namespace Go.Proofs.Ytniijiipkfhjgaa
open Go.RowKit Go.Sort
/-- the slice v reads as these messages, each with its writes -/
def MsC (cs : List Value) (lo hi : Nat) (w : World) (v : Value) (ms : List (Msg × List Wr)) : Prop :=
  Rd lo hi w 24 v ms.length cs ∧ ∀ (i : Nat) (q : Msg × List Wr), ms[i]? = some q → ∃ lv, (cs.drop (i * 24)).take 24 = (q.1.cells lv).toList ∧ Ws lo hi w lv q.2
theorem MsC.same {cs : List Value} {lo hi : Nat} {w w' : World} {v : Value} {ms : List (Msg × List Wr)} (h : MsC cs lo hi w v ms) (hs : SameOn lo hi w w') : MsC cs lo hi w' v ms :=
  ⟨h.1.same hs, fun i q hi => let ⟨lv, e, hb⟩ := h.2 i q hi; ⟨lv, e, hb.same hs⟩⟩
theorem Mem.ms {w0 w : World} {H : List Ent} {cs : List Value} {v : Value} {ms : List (Msg × List Wr)} (M : Mem w0 w H) (h : MsC cs 0 w0.heap.size w0 v ms) : MsC cs 0 w0.heap.size w v ms := h.same fun k _ h2 => M.below.block k h2
end Go.Proofs.Ytniijiipkfhjgaa

namespace Go.Proofs.Ytniijiipkfhjgaa
open Go.ChangeShapes Go.WideShapes Go.ChangeAt Go.RowKit Go.Joins
section
variable {H : Type} {enc : TypeId × Value → H} {W : World} {cs : List Value}
theorem rdt_msg (h : Rdt enc Try.prog W 45 cs) : ∃ (m : Msg) (v : Value) (x : List Wr), cs = (m.cells v).toList ∧ Ws 0 W.heap.size W v x := by
  have hl := h.len_struct Try.underlying45
  rw [show Try.prog.cellsOf 45 = 24 by kernel_rfl] at hl
  match cs, hl with
  | [c0, c1, c2, c3, c4, c5, c6, c7, c8, c9, c10, c11, c12, c13, c14, c15, c16, c17, c18, c19, c20, c21, c22, c23], _ =>
    have k1 : Try.prog.cellsOf 3 = 1 := by kernel_rfl
    obtain ⟨z0, e0, -⟩ := (show Rdt enc Try.prog W 35 [c0] from h.field Try.underlying45 0 rfl (k := 1) (by kernel_rfl)).int Try.underlying35
    obtain ⟨z1, e1, -⟩ := (show Rdt enc Try.prog W 3 [c1] from h.field Try.underlying45 1 rfl k1).i64 Try.underlying3
    obtain ⟨z2, e2, -⟩ := (show Rdt enc Try.prog W 3 [c2] from h.field Try.underlying45 2 rfl k1).i64 Try.underlying3
    obtain ⟨z3, e3, -⟩ := (show Rdt enc Try.prog W 3 [c3] from h.field Try.underlying45 3 rfl k1).i64 Try.underlying3
    obtain ⟨z4, e4, -⟩ := (show Rdt enc Try.prog W 3 [c4] from h.field Try.underlying45 4 rfl k1).i64 Try.underlying3
    obtain ⟨n, e5⟩ := rdt_nm (show Rdt enc Try.prog W 40 [c5, c6, c7] from h.field Try.underlying45 5 rfl (k := 3) (by kernel_rfl))
    obtain ⟨z8, e8, -⟩ := (show Rdt enc Try.prog W 3 [c8] from h.field Try.underlying45 6 rfl k1).i64 Try.underlying3
    obtain ⟨z9, e9, -⟩ := (show Rdt enc Try.prog W 35 [c9] from h.field Try.underlying45 7 rfl (k := 1) (by kernel_rfl)).int Try.underlying35
    obtain ⟨z10, e10, -⟩ := (show Rdt enc Try.prog W 3 [c10] from h.field Try.underlying45 8 rfl k1).i64 Try.underlying3
    obtain ⟨vv, e11⟩ := rdt_v8 (show Rdt enc Try.prog W 42 [c11, c12, c13, c14, c15, c16, c17, c18] from h.field Try.underlying45 9 rfl (k := 8) (by kernel_rfl))
    obtain ⟨z19, e19, -⟩ := (show Rdt enc Try.prog W 30 [c19] from h.field Try.underlying45 10 rfl (k := 1) (by kernel_rfl)).i64 Try.underlying30
    obtain ⟨y, e20⟩ := (show Rdt enc Try.prog W 4 [c20] from h.field Try.underlying45 11 rfl (k := 1) (by kernel_rfl)).bool Try.underlying4
    obtain ⟨z21, e21, -⟩ := (show Rdt enc Try.prog W 3 [c21] from h.field Try.underlying45 12 rfl k1).i64 Try.underlying3
    obtain ⟨z22, e22, -⟩ := (show Rdt enc Try.prog W 3 [c22] from h.field Try.underlying45 13 rfl k1).i64 Try.underlying3
    obtain ⟨u, x, e23, hw⟩ := rdt_ws (show Rdt enc Try.prog W 43 [c23] from h.field Try.underlying45 14 rfl (k := 1) (by kernel_rfl)) Try.underlying43
    have e5' : c5 = .int .i64 n.stamp ∧ c6 = .int .i64 n.inc ∧ c7 = .int .i64 n.try_ := by simpa using e5
    obtain ⟨rfl, rfl, rfl⟩ := e5'
    cases e11
    cases e0; cases e1; cases e2; cases e3; cases e4; cases e8; cases e9; cases e10; cases e19; cases e20; cases e21; cases e22; cases e23
    exact ⟨⟨z0, z1, z2, z3, z4, n, z8, z9, z10, vv, z19, y, z21, z22⟩, c23, x, rfl, hw⟩
end
end Go.Proofs.Ytniijiipkfhjgaa

namespace Go.Proofs.Ytniijiipkfhjgaa
open Go.ChangeShapes Go.WideShapes Go.ChangeAt Go.RowKit Go.Joins
section
variable {H : Type} {enc : TypeId × Value → H} {W : World} {cs : List Value}
/-- an argument of an array's type -/
theorem rdt_arr {P : Program} {t : TypeId} {m : Nat} {e : TypeId} {base : Nat} {v : Value} {d : DataW H} {ps : List MemPlace} (ht : P.underlying t = some (.array m e)) (hv : Value.okWide P W .any base t v) (h : DataW.Trod enc P W 0 (fun _ => true) true t v d ps) : ∃ cs : List Value, v = .agg cs.toArray ∧ Rdt enc P W t cs := by
  obtain ⟨fuel, h⟩ := h
  unfold Value.okWide at hv
  simp only [ht] at hv
  obtain ⟨cs, rfl, -, -⟩ := hv
  exact ⟨cs.toList, rfl, fuel, _, h⟩
theorem rdt_bytesA (h : Rdt enc Try.prog W 36 cs) : ∃ u bs, cs = [u] ∧ Bs 0 W.heap.size W u bs := by
  obtain ⟨u, bs, e, hR⟩ := h.flat (f := fun b : UInt8 => [Value.int .u8 (b.toNat : Int)]) (sz := 1) Try.underlying36 (by kernel_rfl) (by omega) (fun _ => rfl) (fun cs h => h.u8 Try.underlying5)
  have hb : bs.flatMap (fun b => [Value.int .u8 (b.toNat : Int)]) = bcells bs := by
    clear hR
    induction bs with
    | nil => rfl
    | cons z zs ih => rw [List.flatMap_cons, ih]; rfl
  rw [hb] at hR
  exact ⟨u, bs, e, hR⟩
theorem rdt_of8 (h : Rdt enc Try.prog W 22 cs) : ∃ o : Of8, cs = o.cellsL := by
  have hl := h.len_array Try.underlying22
  rw [show Try.prog.cellsOf 22 = 8 by kernel_rfl] at hl
  match cs, hl with
  | [c0, c1, c2, c3, c4, c5, c6, c7], _ =>
    have k1 : Try.prog.cellsOf 3 = 1 := by kernel_rfl
    obtain ⟨z0, e0, -⟩ := (show Rdt enc Try.prog W 3 [c0] from h.elem Try.underlying22 k1 0 (by omega)).i64 Try.underlying3
    obtain ⟨z1, e1, -⟩ := (show Rdt enc Try.prog W 3 [c1] from h.elem Try.underlying22 k1 1 (by omega)).i64 Try.underlying3
    obtain ⟨z2, e2, -⟩ := (show Rdt enc Try.prog W 3 [c2] from h.elem Try.underlying22 k1 2 (by omega)).i64 Try.underlying3
    obtain ⟨z3, e3, -⟩ := (show Rdt enc Try.prog W 3 [c3] from h.elem Try.underlying22 k1 3 (by omega)).i64 Try.underlying3
    obtain ⟨z4, e4, -⟩ := (show Rdt enc Try.prog W 3 [c4] from h.elem Try.underlying22 k1 4 (by omega)).i64 Try.underlying3
    obtain ⟨z5, e5, -⟩ := (show Rdt enc Try.prog W 3 [c5] from h.elem Try.underlying22 k1 5 (by omega)).i64 Try.underlying3
    obtain ⟨z6, e6, -⟩ := (show Rdt enc Try.prog W 3 [c6] from h.elem Try.underlying22 k1 6 (by omega)).i64 Try.underlying3
    obtain ⟨z7, e7, -⟩ := (show Rdt enc Try.prog W 3 [c7] from h.elem Try.underlying22 k1 7 (by omega)).i64 Try.underlying3
    cases e0; cases e1; cases e2; cases e3; cases e4; cases e5; cases e6; cases e7
    exact ⟨⟨z0, z1, z2, z3, z4, z5, z6, z7⟩, rfl⟩
theorem rdt_cal (h : Rdt enc Try.prog W 38 cs) : ∃ (c : Cal) (u : Value) (bs : List UInt8), cs = c.cellsL u ∧ Bs 0 W.heap.size W u bs := by
  have hl := h.len_struct Try.underlying38
  rw [show Try.prog.cellsOf 38 = 6 by kernel_rfl] at hl
  match cs, hl with
  | [c0, c1, c2, c3, c4, c5], _ =>
    have k1 : Try.prog.cellsOf 3 = 1 := by kernel_rfl
    obtain ⟨z0, e0, -⟩ := (show Rdt enc Try.prog W 35 [c0] from h.field Try.underlying38 0 rfl (k := 1) (by kernel_rfl)).int Try.underlying35
    obtain ⟨z1, e1, -⟩ := (show Rdt enc Try.prog W 3 [c1] from h.field Try.underlying38 1 rfl k1).i64 Try.underlying3
    obtain ⟨z2, e2, -⟩ := (show Rdt enc Try.prog W 3 [c2] from h.field Try.underlying38 2 rfl k1).i64 Try.underlying3
    obtain ⟨z3, e3, -⟩ := (show Rdt enc Try.prog W 3 [c3] from h.field Try.underlying38 3 rfl k1).i64 Try.underlying3
    obtain ⟨u, bs, e4, hB⟩ := rdt_bytesA (show Rdt enc Try.prog W 36 [c4] from h.field Try.underlying38 4 rfl (k := 1) (by kernel_rfl))
    obtain ⟨z5, e5, -⟩ := (show Rdt enc Try.prog W 3 [c5] from h.field Try.underlying38 5 rfl k1).i64 Try.underlying3
    cases e0; cases e1; cases e2; cases e3; cases e4; cases e5
    exact ⟨⟨z0, z1, z2, z3, z5⟩, c4, bs, rfl, hB⟩
theorem cut_at (cs : List Value) (a k : Nat) : cs.drop a = (cs.drop a).take k ++ cs.drop (a + k) := by
  rw [← List.drop_drop, List.take_append_drop]
theorem rdt_act (h : Rdt enc Try.prog W 47 cs) : ∃ (q : Act_) (u v : Value), cs = q.cellsL u v ∧ Bs 0 W.heap.size W u q.bs ∧ Ws 0 W.heap.size W v q.x := by
  have hl := h.len_struct Try.underlying47
  rw [show Try.prog.cellsOf 47 = 54 by kernel_rfl] at hl
  have k1 : Try.prog.cellsOf 3 = 1 := by kernel_rfl
  obtain ⟨z0, e0, -⟩ := (show Rdt enc Try.prog W 3 ((cs.drop 0).take 1) from h.field Try.underlying47 0 rfl k1).i64 Try.underlying3
  obtain ⟨c, u, bs, e1, hB⟩ := rdt_cal (show Rdt enc Try.prog W 38 ((cs.drop 1).take 6) from h.field Try.underlying47 1 rfl (k := 6) (by kernel_rfl))
  obtain ⟨z7, e7, -⟩ := (show Rdt enc Try.prog W 3 ((cs.drop 7).take 1) from h.field Try.underlying47 2 rfl k1).i64 Try.underlying3
  obtain ⟨m, v, x, e8, hW⟩ := rdt_msg (show Rdt enc Try.prog W 45 ((cs.drop 8).take 24) from h.field Try.underlying47 3 rfl (k := 24) (by kernel_rfl))
  obtain ⟨n, e9⟩ := rdt_nm (show Rdt enc Try.prog W 40 ((cs.drop 32).take 3) from h.field Try.underlying47 4 rfl (k := 3) (by kernel_rfl))
  obtain ⟨z35, e35, -⟩ := (show Rdt enc Try.prog W 30 ((cs.drop 35).take 1) from h.field Try.underlying47 5 rfl (k := 1) (by kernel_rfl)).i64 Try.underlying30
  obtain ⟨z36, e36, -⟩ := (show Rdt enc Try.prog W 3 ((cs.drop 36).take 1) from h.field Try.underlying47 6 rfl k1).i64 Try.underlying3
  obtain ⟨of, e37⟩ := rdt_of8 (show Rdt enc Try.prog W 22 ((cs.drop 37).take 8) from h.field Try.underlying47 7 rfl (k := 8) (by kernel_rfl))
  obtain ⟨z45, e45, -⟩ := (show Rdt enc Try.prog W 3 ((cs.drop 45).take 1) from h.field Try.underlying47 8 rfl k1).i64 Try.underlying3
  obtain ⟨vv, e46⟩ := rdt_v8 (show Rdt enc Try.prog W 42 ((cs.drop 46).take 8) from h.field Try.underlying47 9 rfl (k := 8) (by kernel_rfl))
  refine ⟨⟨z0, c, bs, z7, m, x, n, z35, z36, of, z45, vv⟩, u, v, ?_, hB, hW⟩
  have h54 : cs.drop 54 = [] := List.drop_eq_nil_of_le (by omega)
  have hc : cs = (cs.drop 0).take 1 ++ ((cs.drop 1).take 6 ++ ((cs.drop 7).take 1 ++ ((cs.drop 8).take 24 ++ ((cs.drop 32).take 3 ++ ((cs.drop 35).take 1 ++ ((cs.drop 36).take 1 ++ ((cs.drop 37).take 8 ++ ((cs.drop 45).take 1 ++ ((cs.drop 46).take 8 ++ cs.drop 54))))))))) := by
    rw [← cut_at cs 46 8, ← cut_at cs 45 1, ← cut_at cs 37 8, ← cut_at cs 36 1, ← cut_at cs 35 1, ← cut_at cs 32 3, ← cut_at cs 8 24, ← cut_at cs 7 1, ← cut_at cs 1 6, ← cut_at cs 0 1]
    rfl
  rw [e0, e1, e7, e8, e9, e35, e36, e37, e45, e46, h54] at hc
  exact hc
theorem rdt_acts {t : TypeId} (h : Rdt enc Try.prog W t cs) (ht : Try.prog.underlying t = some (.slice 47)) : ∃ va vc css l, cs = [.slice va l.length vc] ∧ RowA css 0 W.heap.size W (.slice va l.length vc) l := by
  obtain ⟨u, css, xs, e, hR, hx⟩ := h.rows (α := Act_) (Φ := fun q cs => ∃ u v, cs = q.cellsL u v ∧ Bs 0 W.heap.size W u q.bs ∧ Ws 0 W.heap.size W v q.x) (sz := 54) ht (by kernel_rfl) (by omega) (fun q cs ⟨u, v, e, _⟩ => by rw [e]; rfl) (fun cs h => rdt_act h)
  obtain ⟨va, vc, rfl, -, -⟩ := hR.form
  refine ⟨va, vc, css, xs, e, hR, fun i q hq => ?_⟩
  obtain ⟨u, v, e1, hB, hW⟩ := hx i q hq
  obtain ⟨da, dc, rfl, -, -⟩ := hB.form
  obtain ⟨wa, wc, rfl, -, -⟩ := hW.form
  exact ⟨da, dc, wa, wc, e1, hB, hW⟩
end
end Go.Proofs.Ytniijiipkfhjgaa

