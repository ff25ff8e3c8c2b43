/- RunFinds walked. Laid by gen_sz.py. -/
import Derived.Test.YtfemjlhfgmbcmaaVz
namespace Go.Proofs.Ytfemjlhfgmbcmaa
open Go.RowKit Go.Shelf Go.Proofs.YtfemjlhfgmbcmaaW.PrintWords Go.Proofs.YtfemjlhfgmbcmaaW.PrintLast Go.Proofs.YtfemjlhfgmbcmaaW.PrintMore
open Go.Proofs.Ytfemjlhfgmbcmaa.PRunBuilds
set_option linter.unusedVariables false
set_option linter.unusedSimpArgs false
set_option linter.unnecessarySimpa false
attribute [local go_sem] Oper.semAt_some
attribute [local go_sem ↓] Go.wp_at_zero Go.wp_at_succ

theorem findI_own {rows : List RRow} (hs : sortedB rows = true) (j : Nat) (hj : j < rows.length) : findI rows (rows.getD j rz).k = j := by
  have h1 := find_mono hs (rows.getD j rz).k j hj
  rw [ltB_irr] at h1
  have h2 : findI rows (rows.getD j rz).k ≤ j := by
    by_cases h : findI rows (rows.getD j rz).k ≤ j
    · exact h
    · rw [decide_eq_false h] at h1; cases h1
  by_cases h3 : findI rows (rows.getD j rz).k = j
  · exact h3
  · have h4 := find_at rows (rows.getD j rz).k (by omega)
    have h5 := sorted_lt hs (j - findI rows (rows.getD j rz).k - 1) (findI rows (rows.getD j rz).k) (by omega)
    rw [show findI rows (rows.getD j rz).k + (j - findI rows (rows.getD j rz).k - 1) + 1 = j by omega] at h5
    rw [h5] at h4; cases h4
theorem mapR_getD (l : List S54) (j : Nat) (hj : j < l.length) : (l.map toR).getD j rz = toR (l.getD j z54) := by
  rw [List.getD_eq_getElem?_getD, List.getD_eq_getElem?_getD, List.getElem?_map, List.getElem?_eq_getElem hj]; rfl
/-- A row bears the key just where the search ends, and if the key is found. -/
theorem getF_at {rows : List RRow} (hs : sortedB rows = true) (k : ByteArray) (j : Nat) (hj : j < rows.length) : (rows.getD j rz).k = k ↔ (getF rows k).2 = true ∧ j = findI rows k := by
  unfold getF
  by_cases h : findI rows k < rows.length ∧ (rows.getD (findI rows k) rz).k = k
  · rw [if_pos h]
    refine ⟨fun e => ⟨rfl, ?_⟩, fun e => ?_⟩
    · have h2 := findI_own hs j hj
      rw [e] at h2
      exact h2.symm
    · rw [e.2]; exact h.2
  · rw [if_neg h]
    refine ⟨fun e => ?_, fun e => by cases e.1⟩
    exfalso
    apply h
    have h2 := findI_own hs j hj
    rw [e] at h2
    rw [h2]
    exact ⟨hj, e⟩
theorem getF_row {rows : List RRow} (k : ByteArray) (h : (getF rows k).2 = true) : findI rows k < rows.length ∧ (getF rows k).1 = rows.getD (findI rows k) rz := by
  unfold getF at h ⊢
  by_cases h1 : findI rows k < rows.length ∧ (rows.getD (findI rows k) rz).k = k
  · rw [if_pos h1]; exact ⟨h1.1, rfl⟩
  · rw [if_neg h1] at h; cases h
theorem getF_none {rows : List RRow} (k : ByteArray) (h : (getF rows k).2 = false) : (getF rows k).1 = rz := by
  unfold getF at h ⊢
  by_cases h1 : findI rows k < rows.length ∧ (rows.getD (findI rows k) rz).k = k
  · rw [if_pos h1] at h; cases h
  · rw [if_neg h1]
section
variable {F : Fence} {n : Nat} {P : Program} {ops : Array Oper} {rest : List Oper} {o : Oper} {a : Act} {Q : Exit → Act → World → Prop} {w : World}
/-- A row is loaded under a condition that holds. -/
theorem wpListIn_load_if (hw : Region.wanted o (yielded ops a.tmps) = true) (ty : TypeId) (x : Operand) (ho : o.op = .load ty x) (g : Nat) (hx : a.eval x = .pointer (some ⟨g, 0, none⟩)) (cs : List Value) (t : TypeId) (d : TypeDesc) (hc : w.heap[g]? = some (.cells cs.toArray t (0, 0)))
    (hu : P.underlying ty = some d) (hd : d.isRow = true) (hi : (P.info? ty).map (·.size) = some cs.length)
    (h : wpListIn F n P ops Q rest (a.put o.dst (.agg cs.toArray)) w) : wpListIn F n P ops Q (o :: rest) a w := by
  have hcc : ∀ j u, cs[j]? = some u → w.cell? ((⟨g, 0, none⟩ : Addr).add j) = some u := fun j u hu => by rw [show (⟨g, 0, none⟩ : Addr).add j = ⟨g, j, none⟩ by rw [add_at, Nat.zero_add]]; rw [blk_cell hc]; simpa using hu
  refine wpListIn_step fun K hK => ?_
  rw [if_pos hw]
  refine ⟨fun f hf => (by simp [Oper.about, ho] at hf), ?_⟩
  rw [Oper.semAt_plain F _ _ (by rw [ho]; intro c hc; cases hc)]
  unfold execOp
  simp only [ho, hx, Sem.run_bind, Sem.run_pure, Result.andThen_ok, run_loadAt_at w ⟨g, 0, none⟩ ty cs d hcc hu hd hi]
  exact hK _ _ h
theorem wpList_load_if (hw : Region.wanted o (yielded ops a.tmps) = true) (ty : TypeId) (x : Operand) (ho : o.op = .load ty x) (g : Nat) (hx : a.eval x = .pointer (some ⟨g, 0, none⟩)) (cs : List Value) (t : TypeId) (d : TypeDesc) (hc : w.heap[g]? = some (.cells cs.toArray t (0, 0)))
    (hu : P.underlying ty = some d) (hd : d.isRow = true) (hi : (P.info? ty).map (·.size) = some cs.length)
    (h : wpList P ops Q rest (a.put o.dst (.agg cs.toArray)) w) : wpList P ops Q (o :: rest) a w := by
  have hcc : ∀ j u, cs[j]? = some u → w.cell? ((⟨g, 0, none⟩ : Addr).add j) = some u := fun j u hu => by rw [show (⟨g, 0, none⟩ : Addr).add j = ⟨g, j, none⟩ by rw [add_at, Nat.zero_add]]; rw [blk_cell hc]; simpa using hu
  refine wpList_step fun K hK => ?_
  rw [if_pos hw]
  unfold Oper.wp execOp
  simp only [ho, hx, Sem.run_bind, Sem.run_pure, Result.andThen_ok, run_loadAt_at w ⟨g, 0, none⟩ ty cs d hcc hu hd hi]
  exact hK _ _ h
theorem wpList_store_one (hgd : o.guard = none) (hN : o.dst = none) (ty : TypeId) (x y : Operand) (ho : o.op = .store ty x y) {g t : Nat} {c v : Value} (hx : a.eval x = .pointer (some ⟨g, 0, none⟩)) (hy : a.eval y = v)
    (hg : w.heap[g]? = some (.cells #[c] t (0, 0))) (hi : (P.info? ty).map (·.size) = some 1) (hv : v.cells.toList = [v]) (h1 : v.oneCell' = true)
    (h : ∀ w1, w1.heap[g]? = some (.cells #[v] t (0, 0)) → w.grownBy w1 (some g) → wpList P ops Q rest a w1) : wpList P ops Q (o :: rest) a w := by
  obtain ⟨w1, hr, h2, h3⟩ := run_store_one (P := P) hg hi hv h1
  refine wpList_plain hgd fun K hK => ?_
  unfold Oper.wp execOp
  simp only [ho, hx, hy, Sem.run_bind, Sem.run_pure, Result.andThen_ok, hr]
  show K (a.put o.dst undef) _
  rw [hN]
  exact hK _ _ (h w1 h2 h3)
end
/-- The key's box and the result's. -/
def F2 (w W : World) (k : ByteArray) : Prop := Below w.heap.size w W ∧ W.heap[w.heap.size]? = some (.cells #[.string k] 9 (0, 0)) ∧ W.heap[w.heap.size + 1]? = some (.cells #[.bool false] 4 (0, 0))
theorem F2.below {w W W' : World} {k : ByteArray} (h : F2 w W k) (hb : Below W.heap.size W W') : F2 w W' k := ⟨h.1.trans (hb.mono h.1.size), blk_below h.2.1 hb, blk_below h.2.2 hb⟩
theorem F2.grown {w W W' : World} {k : ByteArray} (h : F2 w W k) {g : Nat} (hg : W.grownBy W' (some g)) (hn : w.heap.size + 2 ≤ g) : F2 w W' k :=
  ⟨h.1.grown hg h.1.size (fun q e => by injection e with e; omega), grown_blk hg h.2.1 (by omega), grown_blk hg h.2.2 (by omega)⟩
theorem F2.lt {w W : World} {k : ByteArray} (h : F2 w W k) : w.heap.size + 2 ≤ W.heap.size := blk_lt h.2.2
/-- What was got, in its boxes. -/
def FB (w W : World) (k cs : ByteArray) (cg is : Bool) (q10 q11 : Nat) : Prop := F2 w W k ∧ W.heap[q10]? = some (.cells #[.string cs, .bool cg] 38 (0, 0)) ∧ W.heap[q11]? = some (.cells #[.bool is] 4 (0, 0))
theorem FB.below {w W W' : World} {k cs : ByteArray} {cg is : Bool} {q10 q11 : Nat} (h : FB w W k cs cg is q10 q11) (hb : Below W.heap.size W W') : FB w W' k cs cg is q10 q11 := ⟨h.1.below hb, blk_below h.2.1 hb, blk_below h.2.2 hb⟩
/-- The count's box. -/
def NB (w W : World) (n : Int) : Prop := Below w.heap.size w W ∧ W.heap[w.heap.size]? = some (.cells #[.int .i64 n] 3 (0, 0))
theorem NB.below {w W W' : World} {n : Int} (h : NB w W n) (hb : Below W.heap.size W W') : NB w W' n := ⟨h.1.trans (hb.mono h.1.size), blk_below h.2 hb⟩
theorem NB.set {w W : World} {n : Int} (h : NB w W n) (i : Int) : NB w (W.setCell ⟨w.heap.size, 0, none⟩ (.int .i64 i)) i := ⟨h.1.setCell (p := ⟨w.heap.size, 0, none⟩) (Nat.le_refl _) _, blk_set h.2 0 _⟩
theorem NB.put {w W : World} {n : Int} (h : NB w W n) {l2 : Nat} (hl : w.heap.size + 1 ≤ l2) (o : Obj) : NB w (W.putObj l2 o) n :=
  ⟨Below.grown h.1 (grownBy_put W l2 _) h.1.size (fun b e => by injection e with e; omega), (World.putObj_heap_other (by omega)).trans h.2⟩
theorem size_put (W : World) (l2 : Nat) (o : Obj) : (W.putObj l2 o).heap.size = W.heap.size := by simp only [World.putObj, Array.size_setIfInBounds]

set_option maxRecDepth 100000 in
set_option maxHeartbeats 16000000 in
theorem runFinds_fin (A : Option Addr) (c : Nat) (l : List S54) (k : ByteArray) (w : World) (h : Kd.C k54 w A l.length l) (hl : l.length ≤ 1048576) (hk : k.size ≤ 1048576) :
    Calls Try.prog 6 #[.slice A l.length c, .string k] w fun e w' => e = .returned (.bool true) ∧ Below w.heap.size w w' := by
  have HC := Lib.hid (fun (W : World) (hb : Below w.heap.size w W) => Kd.C_below h hb)
  have HLB := Lib.hid hl
  have HKZ := Lib.hid (show k.size ≤ maxLen by unfold maxLen; omega)
  obtain ⟨rows, hrows⟩ : ∃ rows, rows = l.map toR := ⟨_, rfl⟩
  have HRL := Lib.hid (show rows.length = l.length by rw [hrows, List.length_map])
  have HRW := Lib.hid hrows
  have HA := Lib.hid (fun (W : World) (hb : Below w.heap.size w W) => (show Calls Try.prog 41 #[.int .i64 100, .slice A l.length c] W fun e w' => e = .returned (.tuple #[.string (buildF 100 rows).1, .int .i64 (buildF 100 rows).2]) ∧ Below W.heap.size W w' by rw [hrows]; exact built_calls 100 A c l W (HC.out W hb) hl))
  have hoA := built_ok 100 rows
  obtain ⟨SA, hSA⟩ : ∃ x, x = buildF 100 rows := ⟨_, rfl⟩
  have HSA := Lib.hid hSA
  rw [← hSA] at HA hoA
  clear hSA hrows h hl hk
  obtain ⟨sA, eA⟩ := SA
  dsimp only at HA hoA
  by_cases hA : eA = 0
  · subst hA
    obtain ⟨nb, hn⟩ := hoA rfl
    have HOA := Lib.hid hn
    have hq : (((0 : Nat) : Int) != 0) = false := rfl
    have HXA := Lib.hid (show openF sA = some (rows, nb) ∧ sA.size ≤ maxLen from ⟨by have := hn.opens; rwa [← HSA.out] at this, by have := hn.size; rwa [← HSA.out] at this⟩)
    have HMY := Lib.hid (fun x (hx : x ∈ rows) => (show x.k.size ≤ maxLen by have := (mayN_sz (goB_may 100 rows none ms0 hn.good x hx)).1; unfold maxLen; omega))
    clear hoA hn
    obtain ⟨F, hF⟩ : ∃ F, F = findI rows k := ⟨_, rfl⟩
    have HFM := Lib.hid (fun (j : Nat) (hj : j < rows.length) (hFj : F ≤ j) => (show ltB (rows.getD j rz).k k = false by rw [find_mono HOA.out.sorted k j hj, ← hF, decide_eq_true hFj]; rfl))
    have HFL := Lib.hid (show F ≤ l.length by rw [hF, ← HRL.out]; exact findI_le rows k)
    have hgat := getF_at HOA.out.sorted k
    have hgrow := getF_row (rows := rows) k
    have hgno := getF_none (rows := rows) k
    have HG := Lib.hid (fun (g base : Nat) (W : World) (h : RunIs W g base rows nb) => Get_calls k h (by have := HRL.out; have := HLB.out; omega) HOA.out.sorted)
    rw [← hF] at hgat hgrow
    have HFK := Lib.hid hF
    clear hF
    obtain ⟨CI, hCI⟩ : ∃ x, x = getF rows k := ⟨_, rfl⟩
    rw [← hCI] at hgat hgrow hgno HG
    clear hCI
    obtain ⟨⟨ck, cs, cg⟩, is⟩ := CI
    dsimp only [cellR] at hgat hgrow hgno HG
    have HGAT := Lib.hid hgat
    have HGROW := Lib.hid hgrow
    have HGNO := Lib.hid hgno
    clear hgat hgrow hgno
    refine (callsIn_wide (n := 6)).1 ?_
    refine callsIn_of_wp_marks Try.func6 rfl trivial ?_ rfl
    simp only [Try.ntmps6, List.size_toArray, List.length_cons, List.length_nil, Nat.reduceAdd, Nat.reduceSub, Array.replicate_succ, Array.replicate_zero, List.push_toArray, List.append_toArray, List.nil_append, List.cons_append]
    refine wpIn_mono ?_ (noPanic_le _)
    refine wpIn_wide.2 ?_
    go_wp2_with (first | (go_at_call 34; refine (shown7_calls _).mono ?_; rintro e w1 ⟨rfl, hb1⟩; have HX1 := Lib.hid (show F2 w w1 k from ⟨(below_alloc (below_alloc (Below.refl _ _) _) _).trans (hb1.mono (by rw [World.size_alloc, World.size_alloc]; omega)), blk_below (blk_alloc (blk_new w _) _) hb1, blk_below (heap_alloc2_new w _ _) hb1⟩); clear hb1) | (go_at_call 41; refine (HA.out _ HX1.out.1).mono ?_; rintro e w2 ⟨rfl, hb2⟩; have HX2 := Lib.hid (HX1.out.below hb2); have f4 := blk_frozen HX2.out.2.2 0; have c4 := (blk_cell HX2.out.2.2 0).trans rfl; clear hb2) | (go_at_call 42; clear f4 c4; refine (OB HXA.out).mono ?_; rintro e w3 ⟨g1, rfl, hb3, hr3⟩; have HX3 := Lib.hid (HX2.out.below hb3); have HR3 := Lib.hid hr3; have c33 := (blk_cell HX3.out.2.1 0).trans rfl; clear hb3 hr3) | (go_at_call 35; clear c33; refine (HG.out g1 _ _ HR3.out).mono ?_; rintro e w4 ⟨rfl, hb4⟩; have HX4 := Lib.hid (HX3.out.below hb4); have HR4 := Lib.hid (HR3.out.below hb4); clear hb4) | ((with_reducible refine gate_dst (N := 10) rfl ?_); refine box_event ?hg (N := 10) ?hd (cs := #[.string ⟨#[]⟩, .bool false]) (t := 38) ?hr ?_; (case hd => rfl); (case hg => rfl); (case hr => first | (go_simp; done) | (go_simp; rfl)); intro g10 hgx w5 hz hb; have HG10 := Lib.hid hgx; have HX5 := Lib.hid (HX4.out.below hb); have HB5 := Lib.hid hb; have HZ5 := Lib.hid hz; clear hgx hz hb) | ((with_reducible refine gate_dst (N := 11) rfl ?_); refine box_event ?hg (N := 11) ?hd (cs := #[.bool false]) (t := 4) ?hr ?_; (case hd => rfl); (case hg => rfl); (case hr => first | (go_simp; done) | (go_simp; rfl)); intro g11 hgx w6 hz hb; have HG11 := Lib.hid hgx; have HX6 := Lib.hid (HX5.out.below hb); have HB6 := Lib.hid (HB5.out.trans (hb.mono HB5.out.size)); have HZ6a := Lib.hid (blk_below HZ5.out hb); have HZ6b := Lib.hid hz; clear hgx hz hb) | (refine wpList_store_row rfl rfl 38 (.tmp 10) (.tmp 42) rfl (g := g10) rfl rfl HZ6a.out (by kernel_rfl) rfl (one2 rfl rfl) ?_; intro w7 hz hg; have HX7 := Lib.hid (HX6.out.grown hg (by have := HG10.out; have := HX4.out.lt; omega)); have HB7 := Lib.hid (HB6.out.grown hg HB6.out.size (fun q e => by have := HG10.out; injection e with e; omega)); have HZ7a := Lib.hid hz; have HZ7b := Lib.hid (grown_blk hg HZ6b.out (by have := HG11.out; have := blk_lt HZ5.out; omega)); clear hz hg) | (refine wpList_store_one rfl rfl 4 (.tmp 11) (.tmp 43) rfl (g := g11) rfl rfl HZ7b.out (by kernel_rfl) rfl rfl ?_; intro w8 hz hg; have HFB := Lib.hid (show FB w w8 k cs cg is g10 g11 from ⟨HX7.out.grown hg (by have := HG11.out; have := HX5.out.lt; omega), grown_blk hg HZ7a.out (by have := HG11.out; have := blk_lt HZ5.out; omega), hz⟩); have HR8 := Lib.hid (runIs_grown HR4.out HB7.out hg (by have := HG11.out; have := HB5.out.size; omega)); clear hz hg))
    go_loopw [12, 13] (fun fv iv W => ∃ (j : Int) (fb : Bool), fv = .bool fb ∧ fb = (is && decide ((F : Int) < j)) ∧ iv = .int .i64 j ∧ 0 ≤ j ∧ j ≤ l.length ∧ FB w W k cs cg is g10 g11 ∧ RunIs W g1 w2.heap.size rows nb) (fun fv iv _ => l.length - (intOf iv).toNat)
    case atStart => exact ⟨0, false, rfl, by rw [decide_eq_false (by omega), Bool.and_false], rfl, Int.le_refl _, by omega, HFB.out, HR8.out⟩
    case round =>
      obtain ⟨j, fb, rfl, hfb, rfl, hj0, hj, hbx, hrr⟩ := hrel
      have HFBR := Lib.hid hbx
      have HRR := Lib.hid hrr
      have HFV := Lib.hid hfb
      clear hbx hrr hfb HFB HR8
      by_cases hlt : j < (l.length : Int)
      · obtain ⟨ad, hAd, i1, i2, i3⟩ := at_T54 (HC.out wr HFBR.out.1.1) j hj0 hlt
        have hjb : j ≤ 1048576 := by have := HLB.out; omega
        subst hAd
        obtain ⟨x, hx⟩ : ∃ x, x = rd_T54 l j := ⟨_, rfl⟩
        rw [← hx] at i1 i2 i3
        have hrow : rows.getD j.toNat rz = toR x := by rw [HRW.out, mapR_getD l j.toNat (by omega), hx]; rfl
        have hat := HGAT.out j.toNat (by have := HRL.out; omega)
        rw [hrow] at hat
        have hat : x.f0 = k ↔ is = true ∧ j.toNat = F := hat
        have hS13 : wr.drew.cell? ⟨w.heap.size, 0, none⟩ = some (.string k) ∧ wr.drew.cell? (ad.add (j.toNat * 3)) = some (.string x.f0) := ⟨(blk_cell (w := wr.drew) HFBR.out.1.2.1 0).trans rfl, i1⟩
        have hd12 : Below wr.heap.size wr wr.drew := below_drew1 (Below.refl _ _)
        by_cases hkk : x.f0 = k
        · obtain ⟨his, hjF⟩ := hat.1 hkk
          subst his
          have hcx := (HGROW.out rfl).2
          rw [← hjF, hrow] at hcx
          have hcs : cs = x.f1.f0 := congrArg RRow.s hcx
          have hcg : cg = x.f1.f1 := congrArg RRow.gone hcx
          have HJF := Lib.hid hjF
          obtain ⟨xk, xs, xg⟩ := x
          dsimp only at hkk hcs hcg i1 i2 i3 hS13
          have hkk := hkk.symm
          subst hkk hcs hcg
          have hS15 : wr.drew.drew.rangeAt g10 0 [.string cs, .bool cg] ∧ (∀ t u, [Value.string cs, .bool cg][t]? = some u → wr.drew.drew.cell? ((⟨(ad.add (j.toNat * 3)).block, (ad.add (j.toNat * 3)).off + 1, none⟩ : Addr).add t) = some u) := by
            refine ⟨rangeAt_of_blk (w := wr.drew.drew) HFBR.out.2.1, fun t u ht => ?_⟩
            match t, ht with
            | 0, ht => injection ht with ht; subst ht; exact i2
            | 1, ht => injection ht with ht; subst ht; exact i3
          have hnq : ∀ W, Sem.run Try.prog (binOp BinOp.neq 38 (.agg #[.string cs, .bool cg]) (.agg #[.string cs, .bool cg])) W = .ok (.bool false) W := fun W => by
            rw [neq38, (cellEq_iff _ _ _ _).2 ⟨rfl, rfl⟩]; rfl
          clear hx hrow hat hcx hjF i1 i2 i3
          go_wp2_with fail
          refine start_ (n := 7) (S := fun w' => w'.cell? ⟨w.heap.size, 0, none⟩ = some (.string k) ∧ w'.cell? (ad.add (j.toNat * 3)) = some (.string k)) (ds := []) #[false, false, false, false, false, false, false] (by kernel_rfl) rfl rfl (hS13) (fun hHeld => ?_)
          refine pure_ (i := 0) (N := some 50) (v := ?_) (a' := ?_) #[true, false, false, false, false, false, false] rfl rfl (by kernel_rfl) (fun _ _ _ h => h) (Or.inl ⟨by rfl, ?_⟩) ?_ ?_
          rotate_left
          · intro w'
            go_simp
            with_reducible rfl
          rotate_left
          · simp only [Act.put, List.setIfInBounds_toArray, List.set_cons_zero, List.set_cons_succ, i64_w, i32_w]
            rfl
          refine pure_ (i := 1) (N := some 51) (v := ?_) (a' := ?_) #[true, true, false, false, false, false, false] rfl rfl (by kernel_rfl) (fun _ _ _ h => h) (Or.inl ⟨by rfl, ?_⟩) ?_ ?_
          rotate_left
          · intro w'
            go_simp
            with_reducible rfl
          rotate_left
          · simp only [Act.put, List.setIfInBounds_toArray, List.set_cons_zero, List.set_cons_succ, i64_w, i32_w]
            rfl
          refine pure_ (i := 2) (N := some 52) (v := ?_) (a' := ?_) #[true, true, true, false, false, false, false] rfl rfl (by kernel_rfl) (fun _ _ _ h => h) (Or.inl ⟨by rfl, ?_⟩) ?_ ?_
          rotate_left
          · intro w'
            go_simp
            with_reducible rfl
          rotate_left
          · simp only [Act.put, List.setIfInBounds_toArray, List.set_cons_zero, List.set_cons_succ, i64_w, i32_w]
            rfl
          refine pure_ (i := 3) (N := some 53) (v := ?_) (a' := ?_) #[true, true, true, true, false, false, false] rfl rfl (by kernel_rfl) (fun _ _ _ h => h) (Or.inl ⟨by rfl, ?_⟩) ?_ ?_
          rotate_left
          · intro w'
            go_simp
            with_reducible rfl
          rotate_left
          · simp only [Act.put, List.setIfInBounds_toArray, List.set_cons_zero, List.set_cons_succ, i64_w, i32_w]
            rfl
          refine take_ (i := 4) (N := some 54) (v := ?_) (a' := ?_) #[true, true, true, true, true, false, false] rfl rfl (by kernel_rfl) (fun _ _ _ h => h) (Or.inl ⟨by rfl, ?_⟩) hHeld ?_ ?_
          rotate_left
          · rintro w' ⟨s0, s1⟩
            go_simp
            with_reducible rfl
          rotate_left
          · simp only [Act.put, List.setIfInBounds_toArray, List.set_cons_zero, List.set_cons_succ, i64_w, i32_w]
            rfl
          refine take_ (i := 5) (N := some 55) (v := ?_) (a' := ?_) #[true, true, true, true, true, true, false] rfl rfl (by kernel_rfl) (fun _ _ _ h => h) (Or.inl ⟨by rfl, ?_⟩) hHeld ?_ ?_
          rotate_left
          · rintro w' ⟨s0, s1⟩
            go_simp
            with_reducible rfl
          rotate_left
          · simp only [Act.put, List.setIfInBounds_toArray, List.set_cons_zero, List.set_cons_succ, i64_w, i32_w]
            rfl
          refine pure_ (i := 6) (N := some 56) (v := ?_) (a' := ?_) #[true, true, true, true, true, true, true] rfl rfl (by kernel_rfl) (fun _ _ _ h => h) (Or.inl ⟨by rfl, ?_⟩) ?_ ?_
          rotate_left
          · intro w'
            go_simp
            with_reducible rfl
          rotate_left
          · simp only [Act.put, List.setIfInBounds_toArray, List.set_cons_zero, List.set_cons_succ, i64_w, i32_w]
            rfl
          refine done_ (by kernel_rfl) ?_
          clear hHeld
          go_wp2_with fail
          refine start_ (n := 7) (S := fun w' => w'.rangeAt g10 0 [.string cs, .bool cg] ∧ (∀ t u, [Value.string cs, .bool cg][t]? = some u → w'.cell? ((⟨(ad.add (j.toNat * 3)).block, (ad.add (j.toNat * 3)).off + 1, none⟩ : Addr).add t) = some u)) (ds := []) #[false, false, false, false, false, false, false] (by kernel_rfl) rfl rfl (hS15) (fun hHeld => ?_)
          refine take_ (i := 0) (N := some 57) (v := .agg [.string cs, .bool cg].toArray) (a' := ?_) #[true, false, false, false, false, false, false] rfl rfl (by kernel_rfl) (fun _ _ _ h => h) (yieldsIf_load_mid (by rfl) 38 (.tmp 10) rfl g10 (0) rfl [.string cs, .bool cg] _ (fun w' h => h.1) Try.underlying38 rfl (by kernel_rfl)) hHeld ?_ ?_
          rotate_left
          · simp only [Act.put, List.setIfInBounds_toArray, List.set_cons_zero, List.set_cons_succ, i64_w, i32_w]
            rfl
          refine pure_ (i := 1) (N := some 58) (v := ?_) (a' := ?_) #[true, true, false, false, false, false, false] rfl rfl (by kernel_rfl) (fun _ _ _ h => h) (Or.inl ⟨by rfl, ?_⟩) ?_ ?_
          rotate_left
          · intro w'
            go_simp
            with_reducible rfl
          rotate_left
          · simp only [Act.put, List.setIfInBounds_toArray, List.set_cons_zero, List.set_cons_succ, i64_w, i32_w]
            rfl
          refine pure_ (i := 2) (N := some 59) (v := ?_) (a' := ?_) #[true, true, true, false, false, false, false] rfl rfl (by kernel_rfl) (fun _ _ _ h => h) (Or.inl ⟨by rfl, ?_⟩) ?_ ?_
          rotate_left
          · intro w'
            go_simp
            with_reducible rfl
          rotate_left
          · simp only [Act.put, List.setIfInBounds_toArray, List.set_cons_zero, List.set_cons_succ, i64_w, i32_w]
            rfl
          refine pure_ (i := 3) (N := some 60) (v := ?_) (a' := ?_) #[true, true, true, true, false, false, false] rfl rfl (by kernel_rfl) (fun _ _ _ h => h) (Or.inl ⟨by rfl, ?_⟩) ?_ ?_
          rotate_left
          · intro w'
            go_simp
            with_reducible rfl
          rotate_left
          · simp only [Act.put, List.setIfInBounds_toArray, List.set_cons_zero, List.set_cons_succ, i64_w, i32_w]
            rfl
          refine pure_ (i := 4) (N := some 61) (v := ?_) (a' := ?_) #[true, true, true, true, true, false, false] rfl rfl (by kernel_rfl) (fun _ _ _ h => h) (Or.inl ⟨by rfl, ?_⟩) ?_ ?_
          rotate_left
          · intro w'
            go_simp
            with_reducible rfl
          rotate_left
          · simp only [Act.put, List.setIfInBounds_toArray, List.set_cons_zero, List.set_cons_succ, i64_w, i32_w]
            rfl
          refine take_ (i := 5) (N := some 62) (v := .agg [.string cs, .bool cg].toArray) (a' := ?_) #[true, true, true, true, true, true, false] rfl rfl (by kernel_rfl) (fun _ _ _ h => h) (yieldsIf_load_adr (by rfl) 38 (.tmp 61) rfl ⟨(ad.add (j.toNat * 3)).block, (ad.add (j.toNat * 3)).off + 1, none⟩ rfl [.string cs, .bool cg] _ (fun w' h => h.2) Try.underlying38 rfl (by kernel_rfl)) hHeld ?_ ?_
          rotate_left
          · simp only [Act.put, List.setIfInBounds_toArray, List.set_cons_zero, List.set_cons_succ, i64_w, i32_w]
            rfl
          refine pure_ (i := 6) (N := some 63) (v := ?_) (a' := ?_) #[true, true, true, true, true, true, true] rfl rfl (by kernel_rfl) (fun _ _ _ h => h) (Or.inl ⟨by rfl, ?_⟩) ?_ ?_
          rotate_left
          · intro w'
            go_simp
            with_reducible rfl
          rotate_left
          · simp only [Act.put, List.setIfInBounds_toArray, List.set_cons_zero, List.set_cons_succ, i64_w, i32_w]
            rfl
          refine done_ (by kernel_rfl) ?_
          clear hHeld
          go_wp2_with fail
          go_roundw
          case rel => exact ⟨j + 1, true, rfl, by have := HJF.out; rw [decide_eq_true (by omega)]; rfl, rfl, by omega, by omega, (HFBR.out.below hd12).below (below_drew1 (Below.refl _ _)), (HRR.out.below hd12).below (below_drew1 (Below.refl _ _))⟩
          case measure => simp [intOf]; omega
        · have hfb2 : fb = (is && decide ((F : Int) < j + 1)) := by
            rw [HFV.out]
            by_cases h1 : (F : Int) < j
            · rw [decide_eq_true h1, decide_eq_true (by omega)]
            · by_cases h2 : (F : Int) < j + 1
              · have h3 : is ≠ true := fun h => hkk (hat.2 ⟨h, by omega⟩)
                have h4 : is = false := by simpa using h3
                rw [h4]; rfl
              · rw [decide_eq_false h1, decide_eq_false h2]
          have HFV2 := Lib.hid hfb2
          have hne := ba_list hkk
          clear hx hrow hat hfb2 i1 i2 i3
          go_wp2_with fail
          refine start_ (n := 7) (S := fun w' => w'.cell? ⟨w.heap.size, 0, none⟩ = some (.string k) ∧ w'.cell? (ad.add (j.toNat * 3)) = some (.string x.f0)) (ds := []) #[false, false, false, false, false, false, false] (by kernel_rfl) rfl rfl (hS13) (fun hHeld => ?_)
          refine pure_ (i := 0) (N := some 50) (v := ?_) (a' := ?_) #[true, false, false, false, false, false, false] rfl rfl (by kernel_rfl) (fun _ _ _ h => h) (Or.inl ⟨by rfl, ?_⟩) ?_ ?_
          rotate_left
          · intro w'
            go_simp
            with_reducible rfl
          rotate_left
          · simp only [Act.put, List.setIfInBounds_toArray, List.set_cons_zero, List.set_cons_succ, i64_w, i32_w]
            rfl
          refine pure_ (i := 1) (N := some 51) (v := ?_) (a' := ?_) #[true, true, false, false, false, false, false] rfl rfl (by kernel_rfl) (fun _ _ _ h => h) (Or.inl ⟨by rfl, ?_⟩) ?_ ?_
          rotate_left
          · intro w'
            go_simp
            with_reducible rfl
          rotate_left
          · simp only [Act.put, List.setIfInBounds_toArray, List.set_cons_zero, List.set_cons_succ, i64_w, i32_w]
            rfl
          refine pure_ (i := 2) (N := some 52) (v := ?_) (a' := ?_) #[true, true, true, false, false, false, false] rfl rfl (by kernel_rfl) (fun _ _ _ h => h) (Or.inl ⟨by rfl, ?_⟩) ?_ ?_
          rotate_left
          · intro w'
            go_simp
            with_reducible rfl
          rotate_left
          · simp only [Act.put, List.setIfInBounds_toArray, List.set_cons_zero, List.set_cons_succ, i64_w, i32_w]
            rfl
          refine pure_ (i := 3) (N := some 53) (v := ?_) (a' := ?_) #[true, true, true, true, false, false, false] rfl rfl (by kernel_rfl) (fun _ _ _ h => h) (Or.inl ⟨by rfl, ?_⟩) ?_ ?_
          rotate_left
          · intro w'
            go_simp
            with_reducible rfl
          rotate_left
          · simp only [Act.put, List.setIfInBounds_toArray, List.set_cons_zero, List.set_cons_succ, i64_w, i32_w]
            rfl
          refine take_ (i := 4) (N := some 54) (v := ?_) (a' := ?_) #[true, true, true, true, true, false, false] rfl rfl (by kernel_rfl) (fun _ _ _ h => h) (Or.inl ⟨by rfl, ?_⟩) hHeld ?_ ?_
          rotate_left
          · rintro w' ⟨s0, s1⟩
            go_simp
            with_reducible rfl
          rotate_left
          · simp only [Act.put, List.setIfInBounds_toArray, List.set_cons_zero, List.set_cons_succ, i64_w, i32_w]
            rfl
          refine take_ (i := 5) (N := some 55) (v := ?_) (a' := ?_) #[true, true, true, true, true, true, false] rfl rfl (by kernel_rfl) (fun _ _ _ h => h) (Or.inl ⟨by rfl, ?_⟩) hHeld ?_ ?_
          rotate_left
          · rintro w' ⟨s0, s1⟩
            go_simp
            with_reducible rfl
          rotate_left
          · simp only [Act.put, List.setIfInBounds_toArray, List.set_cons_zero, List.set_cons_succ, i64_w, i32_w]
            rfl
          refine pure_ (i := 6) (N := some 56) (v := ?_) (a' := ?_) #[true, true, true, true, true, true, true] rfl rfl (by kernel_rfl) (fun _ _ _ h => h) (Or.inl ⟨by rfl, ?_⟩) ?_ ?_
          rotate_left
          · intro w'
            go_simp
            with_reducible rfl
          rotate_left
          · simp only [Act.put, List.setIfInBounds_toArray, List.set_cons_zero, List.set_cons_succ, i64_w, i32_w]
            rfl
          refine done_ (by kernel_rfl) ?_
          clear hHeld
          go_wp2_with fail
          go_roundw
          case rel => exact ⟨j + 1, fb, rfl, HFV2.out, rfl, by omega, by omega, HFBR.out.below hd12, HRR.out.below hd12⟩
          case measure => simp [intOf]; omega
      · have hje : j = l.length := by omega
        have hfe : fb = is := by
          rw [HFV.out]
          cases his : is with
          | false => rfl
          | true => have h1 := (HGROW.out his).1; rw [decide_eq_true (by have := HRL.out; omega)]; rfl
        subst hfe
        have c3a : (wr.alloc (.cells #[.int .i64 0] 3)).cell? ⟨w.heap.size, 0, none⟩ = some (.string k) := (blk_cell (blk_alloc HFBR.out.1.2.1 _) 0).trans rfl
        clear hje HFV
        go_wp2_with (first | (go_at_call 36; refine (From_calls (some ⟨g1, 0, none⟩) k _).mono ?_; rintro e V6 ⟨rb, kb, rfl, hr1, hr2, hb6, hrb, hkb, hsz6⟩; have HR1 := Lib.hid hr1; have HR2 := Lib.hid hr2; have HNB := Lib.hid (show NB wr V6 0 from ⟨(below_alloc (Below.refl _ _) _).trans (hb6.mono (by rw [World.size_alloc]; omega)), blk_below (blk_new wr _) hb6⟩); have HZ6 := Lib.hid (show V6.heap.size = wr.heap.size + 3 by rw [hsz6, World.size_alloc]); clear hr1 hr2 hb6 hrb hkb hsz6 c3a))
        refine (wpIn_wide (n := 6)).1 ?_
        refine range_enter (n := 5) 75 #[.pointer (some ⟨rb, 0, none⟩), .pointer (some ⟨kb, 0, none⟩)] rfl (enters_of Try.func75 (by kernel_rfl) rfl) ?_
        intro r W1 hr hpn hps has hbd htm hl hD hbw1 hs1
        have HRY := Lib.hid hr
        have HPN := Lib.hid hpn
        obtain ⟨l2, hl2⟩ : ∃ l2, l2 = V6.heap.size + 1 := ⟨_, rfl⟩
        rw [← hl2] at hl ⊢
        have ht1 : NB wr W1 0 := HNB.out.below hbw1
        have HL2 := Lib.hid (show wr.heap.size + 4 ≤ l2 ∧ wr.heap.size + 3 ≤ V6.heap.size by have := HZ6.out; omega)
        have HL2E := Lib.hid hl2
        clear hl2
        obtain ⟨A', cA, bx, hg, hbx, hFF, _, _, hcap⟩ := HRR.out
        have hrk1 := blk_below HR1.out hbw1
        have hrk2 := blk_below HR2.out hbw1
        refine (From1_in 5 l2 rb kb g1 bx (by decide) rows (by have := HRL.out; have := HLB.out; omega) A' cA w2.heap.size _ k (fun q => wr.heap.size ≤ q) W1 hrk1 hrk2 (blk_below' hg ht1.1) (blk_below' hbx ht1.1) (Kd.F_mono (Kd.F_below hFF ht1.1) (fun q hq => by have h : q < wr.heap.size := hq.2; show ¬ wr.heap.size ≤ q; omega)) HOA.out.sorted hcap
          (fun i W' => NB wr W' ((i : Int) - F) ∧ W'.heap[l2]? = some (.loop r) ∧ W'.heap[V6.heap.size]? = some (.deferred (some [])))
          (fun _ => False) ?hJ ?hY ?h0).mono ?post
        case hJ =>
          rintro i Wa Wb ⟨h1, h2, h3⟩ hb
          exact ⟨h1.below hb, blk_below h2 hb, blk_below h3 hb⟩
        case h0 => rw [← HFK.out, Int.sub_self]; exact ⟨ht1, hl, hD⟩
        case hY =>
          rintro jn W3 ⟨hnb, hlp, hdf⟩ hFj hjn hws
          rw [← HFK.out] at hFj
          obtain ⟨n, hn⟩ : ∃ n : Int, n = (jn : Int) - F := ⟨_, rfl⟩
          rw [← hn] at hnb
          have hn0 : 0 ≤ n := by omega
          have hnb2 : n ≤ 1048576 := by have := HRL.out; have := HLB.out; omega
          obtain ⟨rbz, hrbz⟩ : ∃ rbz : Loop, rbz = { r with state := .busy } := ⟨_, rfl⟩
          refine round_enter2 rbz hrbz hlp HRY.out (by rw [hps]; rfl) ?_
          rw [has, hbd, htm, hps]
          obtain ⟨x, hx⟩ : ∃ x, x = rows.getD jn rz := ⟨_, rfl⟩
          rw [← hx]
          have HLE := Lib.hid (show ltB x.k k = false by rw [hx]; exact HFM.out jn hjn hFj)
          have HXZ := Lib.hid (show x.k.size ≤ maxLen by
            refine HMY.out x ?_
            rw [hx, List.getD_eq_getElem?_getD, List.getElem?_eq_getElem hjn]; exact List.getElem_mem hjn)
          have hat := HGAT.out jn hjn
          rw [← hx] at hat
          have HAT := Lib.hid (show n = 0 → (x.k = k ↔ fb = true) from fun h0 => ⟨fun e => (hat.1 e).1, fun e => hat.2 ⟨e, by omega⟩⟩)
          have HCX := Lib.hid (show n = 0 → fb = true → cs = x.s ∧ cg = x.gone from fun h0 e => by
            have h1 := (HGROW.out e).2
            rw [show F = jn by omega, ← hx] at h1
            exact ⟨congrArg RRow.s h1, congrArg RRow.gone h1⟩)
          have HRBZ := Lib.hid hrbz
          have HTB := Lib.hid hnb
          have HLP := Lib.hid hlp
          have HDF := Lib.hid hdf
          have HJN := Lib.hid hn
          clear hx hrbz hnb hlp hdf hn hFj hjn hws hat
          obtain ⟨xk, xs, xg⟩ := x
          dsimp only at HLE HXZ HAT HCX ⊢
          gi_wp2
          obtain ⟨w5, hw5⟩ : ∃ w5, w5 = W3.alloc (.cells #[.string xs, .bool xg] 38) := ⟨_, rfl⟩
          rw [← hw5]
          have hb5 : Below W3.heap.size W3 w5 := hw5 ▸ below_alloc (Below.refl _ _) _
          have hn5 : w5.heap[W3.heap.size]? = some (.cells #[.string xs, .bool xg] 38) := hw5 ▸ blk_new W3 _
          have hl5 : w5.heap[l2]? = some (.loop r) := (hb5.block _ (blk_lt HLP.out)).trans HLP.out
          refine ⟨hl5, ?_⟩
          have hlz := blk_lt HLP.out
          obtain ⟨w6, hw6⟩ : ∃ w6, w6 = w5.putObj l2 (.loop rbz) := ⟨_, rfl⟩
          rw [← hw6]
          have HL6 := Lib.hid (show w6.heap[l2]? = some (.loop rbz) from hw6 ▸ World.putObj_heap_same (blk_lt hl5))
          have ht6 : NB wr w6 n := hw6 ▸ (HTB.out.below hb5).put (by have := HL2.out; omega) _
          have hn6 : w6.heap[W3.heap.size]? = some (.cells #[.string xs, .bool xg] 38) := by rw [hw6]; exact (World.putObj_heap_other (by omega)).trans hn5
          have HD6 := Lib.hid (show w6.heap[V6.heap.size]? = some (.deferred (some [])) by rw [hw6]; exact (World.putObj_heap_other (by have := HL2E.out; omega)).trans ((hb5.block _ (blk_lt HDF.out)).trans HDF.out))
          have HT6 := Lib.hid ht6
          have HN6 := Lib.hid hn6
          have hfb6 : FB w w6 k cs cg fb g10 g11 := HFBR.out.below ht6.1
          have c3b := (blk_cell hfb6.1.2.1 0).trans rfl
          have HFB6 := Lib.hid hfb6
          have HS6 := Lib.hid (show W3.heap.size ≤ w6.heap.size by rw [hw6, size_put]; exact hb5.size)
          clear hw5 hb5 hn5 hl5 hlz hw6 ht6 hn6 hfb6
          gi_wp2
          refine ⟨trivial, (CallsIn.inRound l2 (callsIn_wide.2 (Less_calls xk k w6 HXZ.out HKZ.out))).mono ?_⟩
          rw [HLE.out]
          rintro e w7 ⟨rfl, hb7⟩
          have HB7 := Lib.hid hb7
          have hfb7 := HFB6.out.below hb7
          have ht7 := HT6.out.below hb7
          have HT7 := Lib.hid ht7
          have HFB7 := Lib.hid hfb7
          have HN7 := Lib.hid (blk_below HN6.out hb7)
          have c37 := (blk_cell hfb7.1.2.1 0).trans rfl
          have c47 := (blk_cell hfb7.2.2 0).trans rfl
          have c57 := (blk_cell ht7.2 0).trans rfl
          have f57 := blk_frozen ht7.2 0
          clear c3b hb7 hfb7 ht7
          by_cases hz : n = 0
          · have HZN := Lib.hid hz
            cases fb with
            | true =>
              have hxk := (HAT.out hz).2 rfl
              obtain ⟨hcs, hcg⟩ := HCX.out hz rfl
              subst hxk hcs hcg
              have h38 : ∀ W, Sem.run Try.prog (binOp BinOp.neq 38 (.agg #[.string cs, .bool cg]) (.agg #[.string cs, .bool cg])) W = .ok (.bool false) W := fun W => by rw [neq38, (cellEq_iff _ _ _ _).2 ⟨rfl, rfl⟩]; rfl
              have hnz : (n == 0) = true := by rw [hz]; rfl
              have hnd : decide (n = 0) = true := decide_eq_true hz
              clear hz
              gi_wp2_with (first | ((with_reducible refine gate_dstIn (N := 84) rfl ?_); refine wpListIn_load_if (by rfl) 38 (.tmp 16) rfl W3.heap.size rfl [.string cs, .bool cg] 38 _ HN7.out Try.underlying38 rfl (by kernel_rfl) ?_) | ((with_reducible refine gate_dstIn (N := 85) rfl ?_); refine wpListIn_load_if (by rfl) 38 (.tmp 10) rfl g10 rfl [.string cs, .bool cg] 38 _ HFB7.out.2.1 Try.underlying38 rfl (by kernel_rfl) ?_))
              obtain ⟨w8, hw8⟩ : ∃ w8, w8 = w7.setCell ⟨wr.heap.size, 0, none⟩ (.int .i64 (n + 1)) := ⟨_, rfl⟩
              rw [← hw8]
              have ht8 : NB wr w8 (n + 1) := hw8 ▸ HT7.out.set (n + 1)
              have hlq := HL2.out
              have hle := HL2E.out
              have hl7 : w7.heap[l2]? = some (.loop rbz) := blk_below' HL6.out HB7.out
              have hd7 : w7.heap[V6.heap.size]? = some (.deferred (some [])) := blk_below' HD6.out HB7.out
              have hl8 : w8.heap[l2]? = some (.loop rbz) := by rw [hw8]; exact (Below.heap_setCell _ _ _ l2 (by show l2 ≠ wr.heap.size; omega)).trans hl7
              have hd8 : w8.heap[V6.heap.size]? = some (.deferred (some [])) := by rw [hw8]; exact (Below.heap_setCell _ _ _ _ (by show V6.heap.size ≠ wr.heap.size; omega)).trans hd7
              have hs8 : w8.heap.size = w7.heap.size := by rw [hw8]; exact World.size_setCell _ _ _
              have hr8 := ht8.put (by omega : wr.heap.size + 1 ≤ l2) (.loop r)
              refine round_goes hl8 ⟨rfl, ?_, ?_⟩
              all_goals
                have hrr : ({ rbz with state := .ready, pending := none } : Loop) = r := by rw [HRBZ.out]; exact rec_back HRY.out HPN.out
                rw [hrr]
              · refine ⟨?_, World.putObj_heap_same (blk_lt hl8), (World.putObj_heap_other (by omega)).trans hd8⟩
                rw [show ((jn : Int) + 1) - F = n + 1 by have := HJN.out; omega]
                exact hr8
              · refine ⟨by have := HS6.out; have := HB7.out.size; rw [size_put]; omega, fun q hk hn => ?_⟩
                have hn : ¬ wr.heap.size ≤ q := hn
                exact (hr8.1.block q (by omega)).trans (HTB.out.1.block q (by omega)).symm
            | false =>
              have hxk : ¬ xk = k := fun e => by have := (HAT.out hz).1 e; cases this
              have hne := ba_list hxk
              have hnz : (n == 0) = true := by rw [hz]; rfl
              have hnd : decide (n = 0) = true := decide_eq_true hz
              clear hz
              gi_wp2
              obtain ⟨w8, hw8⟩ : ∃ w8, w8 = w7.setCell ⟨wr.heap.size, 0, none⟩ (.int .i64 (n + 1)) := ⟨_, rfl⟩
              rw [← hw8]
              have ht8 : NB wr w8 (n + 1) := hw8 ▸ HT7.out.set (n + 1)
              have hlq := HL2.out
              have hle := HL2E.out
              have hl7 : w7.heap[l2]? = some (.loop rbz) := blk_below' HL6.out HB7.out
              have hd7 : w7.heap[V6.heap.size]? = some (.deferred (some [])) := blk_below' HD6.out HB7.out
              have hl8 : w8.heap[l2]? = some (.loop rbz) := by rw [hw8]; exact (Below.heap_setCell _ _ _ l2 (by show l2 ≠ wr.heap.size; omega)).trans hl7
              have hd8 : w8.heap[V6.heap.size]? = some (.deferred (some [])) := by rw [hw8]; exact (Below.heap_setCell _ _ _ _ (by show V6.heap.size ≠ wr.heap.size; omega)).trans hd7
              have hs8 : w8.heap.size = w7.heap.size := by rw [hw8]; exact World.size_setCell _ _ _
              have hr8 := ht8.put (by omega : wr.heap.size + 1 ≤ l2) (.loop r)
              refine round_goes hl8 ⟨rfl, ?_, ?_⟩
              all_goals
                have hrr : ({ rbz with state := .ready, pending := none } : Loop) = r := by rw [HRBZ.out]; exact rec_back HRY.out HPN.out
                rw [hrr]
              · refine ⟨?_, World.putObj_heap_same (blk_lt hl8), (World.putObj_heap_other (by omega)).trans hd8⟩
                rw [show ((jn : Int) + 1) - F = n + 1 by have := HJN.out; omega]
                exact hr8
              · refine ⟨by have := HS6.out; have := HB7.out.size; rw [size_put]; omega, fun q hk hn => ?_⟩
                have hn : ¬ wr.heap.size ≤ q := hn
                exact (hr8.1.block q (by omega)).trans (HTB.out.1.block q (by omega)).symm
          · have hnz : (n == 0) = false := by simpa using hz
            have hnd : decide (n = 0) = false := decide_eq_false hz
            gi_wp2
            obtain ⟨w8, hw8⟩ : ∃ w8, w8 = w7.setCell ⟨wr.heap.size, 0, none⟩ (.int .i64 (n + 1)) := ⟨_, rfl⟩
            rw [← hw8]
            have ht8 : NB wr w8 (n + 1) := hw8 ▸ HT7.out.set (n + 1)
            have hlq := HL2.out
            have hle := HL2E.out
            have hl7 : w7.heap[l2]? = some (.loop rbz) := blk_below' HL6.out HB7.out
            have hd7 : w7.heap[V6.heap.size]? = some (.deferred (some [])) := blk_below' HD6.out HB7.out
            have hl8 : w8.heap[l2]? = some (.loop rbz) := by rw [hw8]; exact (Below.heap_setCell _ _ _ l2 (by show l2 ≠ wr.heap.size; omega)).trans hl7
            have hd8 : w8.heap[V6.heap.size]? = some (.deferred (some [])) := by rw [hw8]; exact (Below.heap_setCell _ _ _ _ (by show V6.heap.size ≠ wr.heap.size; omega)).trans hd7
            have hs8 : w8.heap.size = w7.heap.size := by rw [hw8]; exact World.size_setCell _ _ _
            have hr8 := ht8.put (by omega : wr.heap.size + 1 ≤ l2) (.loop r)
            refine round_goes hl8 ⟨rfl, ?_, ?_⟩
            all_goals
              have hrr : ({ rbz with state := .ready, pending := none } : Loop) = r := by rw [HRBZ.out]; exact rec_back HRY.out HPN.out
              rw [hrr]
            · refine ⟨?_, World.putObj_heap_same (blk_lt hl8), (World.putObj_heap_other (by omega)).trans hd8⟩
              rw [show ((jn : Int) + 1) - F = n + 1 by have := HJN.out; omega]
              exact hr8
            · refine ⟨by have := HS6.out; have := HB7.out.size; rw [size_put]; omega, fun q hk hn => ?_⟩
              have hn : ¬ wr.heap.size ≤ q := hn
              exact (hr8.1.block q (by omega)).trans (HTB.out.1.block q (by omega)).symm
        case post =>
          rintro e W4 ⟨⟨ve, rfl⟩, h4⟩
          rcases h4 with ⟨htb, hlp, hdf⟩ | h4
          · refine ⟨⟨_, rfl⟩, r, hlp, by rw [HRY.out]; decide, ?_⟩
            intro W5 hW5
            rw [HPN.out]
            dsimp only
            have hl2 := HL2.out
            obtain ⟨n, hn⟩ : ∃ n : Int, n = (rows.length : Int) - F := ⟨_, rfl⟩
            rw [← hn] at htb
            have htx : NB wr W5 n := hW5 ▸ htb.put (by omega) _
            have HK := Lib.hid (show W5.heap[V6.heap.size]? = some (.deferred (some [])) by rw [hW5]; exact (World.putObj_heap_other (by have := HL2E.out; omega)).trans hdf)
            have hfx : FB w W5 k cs cg fb g10 g11 := HFBR.out.below htx.1
            have HTX := Lib.hid htx
            have HFX := Lib.hid hfx
            have c50 := (blk_cell htx.2 0).trans rfl
            have c51 := (blk_cell hfx.2.2 0).trans rfl
            have c52 := (blk_cell hfx.1.2.2 0).trans rfl
            have f52 := blk_frozen hfx.1.2.2 0
            have hle : decide (n ≤ (l.length : Int)) = true := decide_eq_true (by have := HRL.out; omega)
            have hlp : n ≤ (l.length : Int) := by have := HRL.out; omega
            clear htb hdf hW5 htx hfx hl2 hn
            cases fb with
            | true =>
              go_wp2_with fail
              show bodyPostM _ _ _ _ _ Exit.ret _ _
              obtain ⟨W8, hW8⟩ : ∃ W8, W8 = W5.setCell ⟨w.heap.size + 1, 0, none⟩ (.bool true) := ⟨_, rfl⟩
              rw [← hW8]
              have hlq := HL2.out
              have hws := HFBR.out.1.lt
              have hz : (W8.putObj V6.heap.size (.deferred none)).cell? ⟨w.heap.size + 1, 0, none⟩ = some (.bool true) := by
                have h1 : W8.heap[w.heap.size + 1]? = some (.cells #[.bool true] 4 (0, 0)) := by rw [hW8]; exact blk_set HFX.out.1.2.2 0 _
                exact (blk_cell ((World.putObj_heap_other (by omega)).trans h1) 0).trans rfl
              have hk8 : W8.heap[V6.heap.size]? = some (.deferred (some [])) := by rw [hW8]; exact (Below.heap_setCell _ _ _ _ (by show V6.heap.size ≠ w.heap.size + 1; omega)).trans HK.out
              have hx8 : Below w.heap.size w W8 := by rw [hW8]; exact HFX.out.1.1.setCell (p := ⟨w.heap.size + 1, 0, none⟩) (by show w.heap.size ≤ w.heap.size + 1; omega) _
              refine ⟨by simp, .inl ⟨_, _, rfl, run_takeDeferred hk8, ?_⟩⟩
              refine ⟨.bool true, ?_, rfl, ?_⟩
              · simp [results, Try.f6, go_sem, hz]
              · exact Below.grown hx8 (grownBy_put W8 _ _) hx8.size (fun b e => by injection e with e; omega)
            | false =>
              have hrz := HGNO.out rfl
              have hcs : cs = ⟨#[]⟩ := congrArg RRow.s hrz
              have hcg : cg = false := congrArg RRow.gone hrz
              clear hrz
              subst hcs hcg
              have h38 : ∀ W, Sem.run Try.prog (binOp BinOp.eql 38 (.agg #[.string ⟨#[]⟩, .bool false]) (.agg #[.string ⟨#[]⟩, .bool false])) W = .ok (.bool true) W := fun W => by rw [eq38, (cellEq_iff _ _ _ _).2 ⟨rfl, rfl⟩]
              go_wp2_with (first | ((with_reducible refine gate_dst (N := 111) rfl ?_); refine wpList_load_if (by rfl) 38 (.tmp 10) rfl g10 rfl [.string ⟨#[]⟩, .bool false] 38 _ HFX.out.2.1 Try.underlying38 rfl (by kernel_rfl) ?_))
              show bodyPostM _ _ _ _ _ Exit.ret _ _
              obtain ⟨W8, hW8⟩ : ∃ W8, W8 = W5.setCell ⟨w.heap.size + 1, 0, none⟩ (.bool true) := ⟨_, rfl⟩
              rw [← hW8]
              have hlq := HL2.out
              have hws := HFBR.out.1.lt
              have hz : (W8.putObj V6.heap.size (.deferred none)).cell? ⟨w.heap.size + 1, 0, none⟩ = some (.bool true) := by
                have h1 : W8.heap[w.heap.size + 1]? = some (.cells #[.bool true] 4 (0, 0)) := by rw [hW8]; exact blk_set HFX.out.1.2.2 0 _
                exact (blk_cell ((World.putObj_heap_other (by omega)).trans h1) 0).trans rfl
              have hk8 : W8.heap[V6.heap.size]? = some (.deferred (some [])) := by rw [hW8]; exact (Below.heap_setCell _ _ _ _ (by show V6.heap.size ≠ w.heap.size + 1; omega)).trans HK.out
              have hx8 : Below w.heap.size w W8 := by rw [hW8]; exact HFX.out.1.1.setCell (p := ⟨w.heap.size + 1, 0, none⟩) (by show w.heap.size ≤ w.heap.size + 1; omega) _
              refine ⟨by simp, .inl ⟨_, _, rfl, run_takeDeferred hk8, ?_⟩⟩
              refine ⟨.bool true, ?_, rfl, ?_⟩
              · simp [results, Try.f6, go_sem, hz]
              · exact Below.grown hx8 (grownBy_put W8 _ _) hx8.size (fun b e => by injection e with e; omega)
          · exact h4.elim
  · have hq : ((eA : Int) != 0) = true := by simpa using hA
    clear hoA hA
    go_enter Try.func6, Try.ntmps6
    go_wp2_with (first | (go_at_call 34; refine (shown7_calls _).mono ?_; rintro e w1 ⟨rfl, hb1⟩; have HX1 := Lib.hid (show F2 w w1 k from ⟨(below_alloc (below_alloc (Below.refl _ _) _) _).trans (hb1.mono (by rw [World.size_alloc, World.size_alloc]; omega)), blk_below (blk_alloc (blk_new w _) _) hb1, blk_below (heap_alloc2_new w _ _) hb1⟩); clear hb1) | (go_at_call 41; refine (HA.out _ HX1.out.1).mono ?_; rintro e w2 ⟨rfl, hb2⟩; have HX2 := Lib.hid (HX1.out.below hb2); have f4 := blk_frozen HX2.out.2.2 0; have c4 := (blk_cell HX2.out.2.2 0).trans rfl; clear hb2))
    have hz : (w2.setCell ⟨w.heap.size + 1, 0, none⟩ (.bool true)).cell? ⟨w.heap.size + 1, 0, none⟩ = some (.bool true) := (blk_cell (blk_set HX2.out.2.2 0 (.bool true)) 0).trans rfl
    refine bodyPost_ret (v := .bool true) ?_ rfl ?_
    · simp [results, Try.f6, go_sem, hz]
    · exact ⟨rfl, HX2.out.1.setCell (p := ⟨w.heap.size + 1, 0, none⟩) (Nat.le_succ _) _⟩
end Go.Proofs.Ytfemjlhfgmbcmaa
