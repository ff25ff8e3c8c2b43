/- Build. Laid by gen_sh.py. · The reading of a run's index. Laid by gen_si.py. -/
import Derived.Test.YtfemjlhfgmbcmaaVb
import Derived.Test.YtfemjlhfgmbcmaaFe
namespace Go.Proofs.Ytfemjlhfgmbcmaa
open Go.RowKit Go.Shelf Go.Proofs.YtfemjlhfgmbcmaaW.PrintWords Go.Proofs.YtfemjlhfgmbcmaaW.PrintLast Go.Proofs.YtfemjlhfgmbcmaaW.PrintMore
open Go.Proofs.Ytfemjlhfgmbcmaa.PRunBuilds
set_option linter.unusedVariables false
set_option linter.unusedSimpArgs false
attribute [local go_sem] Oper.semAt_some
attribute [local go_sem ↓] Go.wp_at_zero Go.wp_at_succ

def isFuncB (d : Option TypeDesc) : Bool := match d with | some (.func _ _ _) => true | _ => false
theorem isFunc_of {d : Option TypeDesc} (h : isFuncB d = true) : ∃ a b c, d = some (.func a b c) := by
  cases d with
  | none => cases h
  | some d => cases d <;> first | exact ⟨_, _, _, rfl⟩ | cases h
theorem under42 : ∃ a b c, Try.prog.underlying 42 = some (.func a b c) := isFunc_of (by kernel_rfl)
/-- A function is not nil. -/
theorem hfun42 (f : Fn) (a c : Array Value) (W : World) : Sem.run Try.prog (binOp BinOp.eql 42 (.func f a c) .nilFunc) W = .ok (.bool false) W := by
  obtain ⟨x, y, z, hu⟩ := under42
  have h : ∀ n, (Op.equalIn (n + 1) 42 (.func f a c) .nilFunc).run Try.prog W = .ok false W := fun n => by
    simp [Op.equalIn, run_underlying hu]
  simp [binOp, Op.equal, Op.maxDepth, h 9999]
theorem run_leq (P : Program) (ty : TypeId) (x y : ByteArray) (W : World) : Sem.run P (binOp BinOp.leq ty (.string x) (.string y)) W = .ok (.bool (leB x y)) W := by
  rfl
/-- The last key of those that came. -/
def lastL : Option ByteArray → List RRow → Option ByteArray
  | last, [] => last
  | _, x :: l => lastL (some x.k) l
theorem goB_snoc (b : Int) (x : RRow) : ∀ (l : List RRow) (last : Option ByteArray) (m : MS), (goB b l last m).1 = 0 → goB b (l ++ [x]) last m = if rowE (lastL last l) x = 0 then (0, addS b (goB b l last m).2 x) else (rowE (lastL last l) x, (goB b l last m).2) := by
  intro l
  induction l with
  | nil => intro last m _; rfl
  | cons y r ih =>
    intro last m h
    by_cases hy : rowE last y = 0
    · have e1 : goB b (y :: (r ++ [x])) last m = goB b (r ++ [x]) (some y.k) (addS b m y) := by show (if rowE last y = 0 then _ else _) = _; rw [if_pos hy]
      have e2 : goB b (y :: r) last m = goB b r (some y.k) (addS b m y) := by show (if rowE last y = 0 then _ else _) = _; rw [if_pos hy]
      rw [e2] at h ⊢
      exact e1.trans (ih _ _ h)
    · have e2 : goB b (y :: r) last m = (rowE last y, m) := by show (if rowE last y = 0 then _ else _) = _; rw [if_neg hy]
      rw [e2] at h
      exact absurd h hy
/-- What is wrong stays wrong. -/
theorem goB_bad (b : Int) (t : List RRow) : ∀ (l : List RRow) (last : Option ByteArray) (m : MS), (goB b l last m).1 ≠ 0 → goB b (l ++ t) last m = goB b l last m := by
  intro l
  induction l with
  | nil => intro last m h; exact absurd rfl h
  | cons y r ih =>
    intro last m h
    by_cases hy : rowE last y = 0
    · have e1 : goB b (y :: (r ++ t)) last m = goB b (r ++ t) (some y.k) (addS b m y) := by show (if rowE last y = 0 then _ else _) = _; rw [if_pos hy]
      have e2 : goB b (y :: r) last m = goB b r (some y.k) (addS b m y) := by show (if rowE last y = 0 then _ else _) = _; rw [if_pos hy]
      rw [e2] at h ⊢
      exact e1.trans (ih _ _ h)
    · have e2 : goB b (y :: r) last m = (rowE last y, m) := by show (if rowE last y = 0 then _ else _) = _; rw [if_neg hy]
      have e1 : goB b (y :: (r ++ t)) last m = (rowE last y, m) := by show (if rowE last y = 0 then _ else _) = _; rw [if_neg hy]
      exact e1.trans e2.symm
theorem blk_below' {w W : World} {g : Nat} {o : Obj} (h : w.heap[g]? = some o) (hb : Below w.heap.size w W) : W.heap[g]? = some o := (hb.block g (blk_lt h)).trans h
theorem grown_blk {w w1 : World} {g k : Nat} {o : Obj} (hg : w.grownBy w1 (some g)) (h : w.heap[k]? = some o) (hk : k ≠ g) : w1.heap[k]? = some o := (hg.block k (blk_lt h) (fun e => hk (by injection e))).trans h
theorem grownBy_put (W : World) (l : Nat) (o : Obj) : W.grownBy (W.putObj l o) (some l) :=
  ⟨rfl, rfl, rfl, by simp, fun k _ hk => World.putObj_heap_other (fun e => hk (by rw [e]))⟩
/-- What is left of the maker when its index was told. -/
def MkO (W : World) (g base : Nat) (ok : Nat → Prop) (m : MS) : Prop := ∃ (cs : Array Value) (vo : Value), W.heap[g]? = some (.cells cs 130 (0, 0)) ∧ cs[2]? = some vo ∧ W.ownsRow base 5 1 vo m.out.length (Lib.byteCells m.out) ∧ (∀ k, vo.ownBlock = some k → ok k) ∧ ∀ k, ok k → k ≠ g
theorem Mk.idxO {W : World} {g base : Nat} {ok : Nat → Prop} {b : Int} {m : MS} (h : Mk W g base ok b m) : Calls Try.prog 80 #[.pointer (some ⟨g, 6, none⟩)] W fun e w' => e = .returned (.string ⟨m.idx.toArray⟩) ∧ MkO w' g base ok m ∧ Only2 ok W w' := by
  obtain ⟨po, pi, vo, vi, hpo, hpi, hg, ho, hi, hne, hoo, hoi, hog⟩ := h
  refine (BString g 6 130 _ base vi m.idx W hg rfl hi).mono ?_
  rintro e w' ⟨rfl, h2⟩
  exact ⟨rfl, ⟨_, vo, h2.blk hg (fun h => hog g (hoi g h) rfl), rfl, own_only ho h2 (fun k hk h => hne k hk h), hoo, hog⟩, h2.mono (fun k hk => .inl (hoi k hk))⟩
theorem MkO.below {W W' : World} {g base : Nat} {ok : Nat → Prop} {m : MS} (h : MkO W g base ok m) (hb : Below W.heap.size W W') : MkO W' g base ok m := by
  obtain ⟨cs, vo, hg, hc, ho, hoo, hog⟩ := h
  exact ⟨cs, vo, (hb.block g (blk_lt hg)).trans hg, hc, own_move ho (fun k hk => hb.block k (own_lt ho k hk)), hoo, hog⟩
theorem MkO.set {W W' : World} {g base q : Nat} {ok : Nat → Prop} {m : MS} (h : MkO W g base ok m) (hb : W.grownBy W' (some q)) (hq : q ≠ g) (hok : ¬ ok q) : MkO W' g base ok m := by
  obtain ⟨cs, vo, hg, hc, ho, hoo, hog⟩ := h
  exact ⟨cs, vo, grown_blk hb hg (fun e => hq e.symm), hc, own_move ho (fun k hk => hb.block k (own_lt ho k hk) (fun e => hok (by injection e with e; rw [← e]; exact hoo k hk))), hoo, hog⟩
theorem MkO.outLen {W : World} {g base : Nat} {ok : Nat → Prop} {m : MS} (h : MkO W g base ok m) : Calls Try.prog 81 #[.pointer (some ⟨g, 1, none⟩)] W fun e w' => e = .returned (.int .i64 m.out.length) ∧ W = w' := by
  obtain ⟨cs, vo, hg, hc, ho, hoo, hog⟩ := h
  exact BLen g 1 130 cs base m.out.length vo _ W hg hc ho
theorem MkO.outStr {W : World} {g base : Nat} {ok : Nat → Prop} {m : MS} (h : MkO W g base ok m) : Calls Try.prog 80 #[.pointer (some ⟨g, 1, none⟩)] W fun e w' => e = .returned (.string ⟨m.out.toArray⟩) ∧ Only2 ok W w' := by
  obtain ⟨cs, vo, hg, hc, ho, hoo, hog⟩ := h
  refine (BString g 1 130 cs base vo m.out W hg hc ho).mono ?_
  rintro e w' ⟨rfl, h2⟩
  exact ⟨rfl, h2.mono (fun k hk => .inl (hoo k hk))⟩
theorem idxF_size (m : MS) : (idxF m).1.size ≤ 65600 := by
  unfold idxF putR
  generalize encB m.many ++ ⟨m.idx.toArray⟩ = t
  by_cases h : 65536 < t.size
  · rw [if_pos h]; show (0 : Nat) ≤ _; omega
  · rw [if_neg h]
    have h1 := putB_size 3 t
    have h2 := (encB_le t.size (by omega)).1
    rw [encB_size] at h2
    show (putB 3 t).size ≤ _
    omega
theorem grownBy_setCell0 (W : World) (b : Nat) (v : Value) : W.grownBy (W.setCell ⟨b, 0, none⟩ v) (some b) :=
  ⟨rfl, rfl, rfl, by simp, fun k _ hk => Below.heap_setCell _ _ _ k (fun e => hk (by rw [e]))⟩
def rowsOf (ks : List ByteArray) (cs : List S38) : List RRow := (ks.zip cs).map fun p => ⟨p.1, p.2.f0, p.2.f1⟩
theorem rowsOf_length (ks : List ByteArray) (cs : List S38) (h : cs.length = ks.length) : (rowsOf ks cs).length = ks.length := by
  unfold rowsOf; rw [List.length_map, List.length_zip]; omega
theorem rowsOf_getD (ks : List ByteArray) (cs : List S38) (h : cs.length = ks.length) (j : Nat) (hj : j < ks.length) : (rowsOf ks cs).getD j rz = ⟨ks.getD j ⟨#[]⟩, (cs.getD j z38).f0, (cs.getD j z38).f1⟩ := by
  unfold rowsOf
  rw [List.getD_eq_getElem?_getD, List.getD_eq_getElem?_getD, List.getD_eq_getElem?_getD, List.getElem?_eq_getElem hj, List.getElem?_eq_getElem (show j < cs.length by omega), List.getElem?_eq_getElem (by rw [List.length_map, List.length_zip]; omega), List.getElem_map, List.getElem_zip]
  rfl
theorem take_snoc (rows : List RRow) (j : Nat) (hj : j < rows.length) : rows.take (j + 1) = rows.take j ++ [rows.getD j rz] := by
  rw [List.take_succ_eq_append_getElem hj, List.getD_eq_getElem?_getD, List.getElem?_eq_getElem hj]; rfl
theorem goB_err (b : Int) (rows : List RRow) (j : Nat) (hj : j < rows.length) (E : Nat) (h0 : (goB b (rows.take j) none ms0).1 = 0) (hE : rowE (lastL none (rows.take j)) (rows.getD j rz) = E) (hn : ¬ E = 0) : (goB b rows none ms0).1 = E := by
  have h1 := goB_snoc b (rows.getD j rz) (rows.take j) none ms0 h0
  rw [hE, if_neg hn, ← take_snoc rows j hj] at h1
  have h2 := goB_bad b (rows.drop (j + 1)) (rows.take (j + 1)) none ms0 (by rw [h1]; exact hn)
  rw [List.take_append_drop] at h2
  rw [h2, h1]
theorem lastL_snoc (x : RRow) : ∀ (l : List RRow) (last : Option ByteArray), lastL last (l ++ [x]) = some x.k := by
  intro l
  induction l with
  | nil => intro last; rfl
  | cons y r ih => intro last; exact ih _
theorem lastL_some (x : RRow) : ∀ (l : List RRow), lastL none (x :: l) ≠ none := by
  intro l
  induction l generalizing x with
  | nil => intro h; cases h
  | cons y r ih => exact ih y
theorem lastL_ne (rows : List RRow) (j : Nat) (hj : j < rows.length) (h0 : j ≠ 0) : lastL none (rows.take j) = some ((lastL none (rows.take j)).getD ⟨#[]⟩) := by
  cases hl : lastL none (rows.take j) with
  | some y => rfl
  | none =>
    cases rows with
    | nil => simp at hj
    | cons x r =>
      obtain ⟨k, rfl⟩ : ∃ k, j = k + 1 := ⟨j - 1, by omega⟩
      exact absurd hl (lastL_some x _)
theorem goB_good (b : Int) (rows : List RRow) (j : Nat) (hj : j < rows.length) (h0 : (goB b (rows.take j) none ms0).1 = 0) (hE : rowE (lastL none (rows.take j)) (rows.getD j rz) = 0) : goB b (rows.take (j + 1)) none ms0 = (0, addS b (goB b (rows.take j) none ms0).2 (rows.getD j rz)) ∧ lastL none (rows.take (j + 1)) = some (rows.getD j rz).k := by
  rw [take_snoc rows j hj, lastL_snoc]
  refine ⟨?_, rfl⟩
  rw [goB_snoc b _ _ none ms0 h0, if_pos hE]

set_option maxRecDepth 100000 in
theorem run_store_one {P : Program} {w : World} {g t ty : Nat} {c v : Value} (hg : w.heap[g]? = some (.cells #[c] t (0, 0))) (hi : (P.info? ty).map (·.size) = some 1) (hv : v.cells.toList = [v]) (h1 : v.oneCell' = true) :
    ∃ w1, (Instr.storeAt ty (.pointer (some ⟨g, 0, none⟩)) v).run P w = .ok () w1 ∧ w1.heap[g]? = some (.cells #[v] t (0, 0)) ∧ w.grownBy w1 (some g) := by
  have hr := run_store_run (P := P) (o := 0) ty v [v] hg hv (by exact hi) (by simp) (by intro q hq; rw [List.mem_singleton] at hq; rw [hq]; exact h1)
  obtain ⟨cur', h3, h4, h5⟩ := setCells_row [v] 0 w #[c] hg (by simp)
  obtain ⟨s1, s2, s3, s4⟩ := setCells_same g [v] 0 w
  have hc : cur' = #[v] := by
    apply Array.ext'
    rw [h5]; simp
  rw [hc] at h3
  exact ⟨_, hr, h3, s1, s2, s3, by rw [s4]; exact Nat.le_refl _, fun k _ hk => setCells_far _ _ k (fun e => hk (by rw [e]))⟩
theorem wpListIn_store_one {F : Fence} {n : Nat} {P : Program} {ops : Array Oper} {rest : List Oper} {o : Oper} {a : Act} {Q : Exit → Act → World → Prop} {w : World} (hgd : o.guard = none) (hN : o.dst = none) (ty : TypeId) (x y : Operand) (ho : o.op = .store ty x y) {g t : Nat} {c v : Value} (hx : a.eval x = .pointer (some ⟨g, 0, none⟩)) (hy : a.eval y = v)
    (hg : w.heap[g]? = some (.cells #[c] t (0, 0))) (hi : (P.info? ty).map (·.size) = some 1) (hv : v.cells.toList = [v]) (h1 : v.oneCell' = true)
    (h : ∀ w1, w1.heap[g]? = some (.cells #[v] t (0, 0)) → w.grownBy w1 (some g) → wpListIn F n P ops Q rest a w1) : wpListIn F n P ops Q (o :: rest) a w := by
  obtain ⟨w1, hr, h2, h3⟩ := run_store_one (P := P) hg hi hv h1
  have h4 := h w1 h2 h3
  refine wpListIn_skips (w1 := w1) hgd (by simp [Oper.about, ho]) (by rw [ho]; intro c hc; cases hc) (by simp only [execOp, ho, hx, hy, Sem.run_bind, Sem.run_pure, Result.andThen_ok, hr]) ?_
  show wpListIn F n P ops Q rest (a.put o.dst undef) w1
  rw [hN]
  exact h4
theorem round_enter2 {l m : Nat} {P : Program} {r : Loop} (rb : Loop) (hrb : rb = { r with state := .busy }) {W : World} {args : Array Value} {R : Ending → World → Prop} (hl : W.heap[l]? = some (.loop r)) (hr : r.state = .ready) (hs : args.size = r.params.size)
    (h : r.assign.wpIn (Fence.wide.inRound l) m P (Exit.then (fun a₁ w₁ => w₁.heap[l]? = some (.loop r) ∧ r.body.wpIn (Fence.wide.inRound l) m P (roundPost P l R) a₁ (w₁.putObj l (.loop rb))) (fun _ _ _ => False))
      { tmps := (r.params.zip args).foldl (fun tmps (t, a) => tmps.setIfInBounds t a) r.tmps, defers := [] } W) : YieldAt Fence.wide m P l args W R := by
  refine ⟨r.fn, _, r.assign, r.body, run_yield hl hs, roundIn_of_wpIn trivial (wpIn_mono h ?_)⟩
  intro e a₁ w₁ hq
  cases e with
  | normal => exact ⟨_, run_beginRound hq.1 hr, hrb ▸ hq.2⟩
  | _ => exact hq
set_option maxRecDepth 100000 in
set_option maxHeartbeats 16000000 in
theorem Build_calls (b : Int) (b1 b2 : Nat) (ks : List ByteArray) (cs : List S38) (hlen : cs.length = ks.length) (hmax : ks.length ≤ 1048576) (A B : Option Addr) (cA cB : Nat) (w : World) (h1 : w.heap[b1]? = some (.cells #[.slice A ks.length cA] 57 (0, 0))) (h2 : w.heap[b2]? = some (.cells #[.slice B cs.length cB] 136 (0, 0)))
    (hA : Kd.F Kd.string w (fun k => k < w.heap.size) A ks.length ks) (hB : Kd.F k38 w (fun k => k < w.heap.size) B cs.length cs) (hb0 : 64 ≤ b) (hb1 : b ≤ 4096) :
    Calls Try.prog 37 #[.int .i64 b, .func (.func 105) #[] #[.pointer (some ⟨b1, 0, none⟩), .pointer (some ⟨b2, 0, none⟩)]] w fun e w' => e = .returned (.tuple #[.string (buildF b (rowsOf ks cs)).1, .int .i64 (buildF b (rowsOf ks cs)).2]) ∧ Below w.heap.size w w' := by
  obtain ⟨rows, hrows⟩ : ∃ rows, rows = rowsOf ks cs := ⟨_, rfl⟩
  rw [← hrows]
  have HR := Lib.hid hrows
  clear hrows
  have hd1 : decide (b < 64) = false := by simp; omega
  have hd2 : decide (4096 < b) = false := by simp; omega
  have HA := Lib.hid hA
  have HB := Lib.hid hB
  have H1 := Lib.hid h1
  have H2 := Lib.hid h2
  clear hA hB h1 h2
  have hfun := fun W => hfun42 (.func 105) #[] #[.pointer (some ⟨b1, 0, none⟩), .pointer (some ⟨b2, 0, none⟩)] W
  refine (callsIn_wide (n := 6)).1 ?_
  refine callsIn_of_wp_marks Try.func37 rfl trivial ?_ rfl
  simp only [Try.ntmps37, List.size_toArray, List.length_cons, List.length_nil, Nat.reduceAdd, Nat.reduceSub, Array.replicate_succ, Array.replicate_zero, List.push_toArray, List.append_toArray, List.nil_append, List.cons_append]
  refine wpIn_mono ?_ (noPanic_le _)
  refine wpIn_wide.2 ?_
  go_wp2_with fail
  obtain ⟨V0, hV0⟩ : ∃ V0, V0 = w.alloc (.cells #[.string ⟨#[]⟩] 9) := ⟨_, rfl⟩
  rw [← hV0]
  have hz0 : V0.heap.size = w.heap.size + 1 := by rw [hV0, World.size_alloc]
  have hn0 : V0.heap[w.heap.size + 0]? = some (.cells #[.string ⟨#[]⟩] 9) := by have h := hV0 ▸ blk_new w (.cells #[.string ⟨#[]⟩] 9); exact h
  have hl0 : Below w.heap.size w V0 := hV0 ▸ below_alloc (Below.refl _ _) _
  obtain ⟨V1, hV1⟩ : ∃ V1, V1 = V0.alloc (.cells #[.int .i64 0] 31) := ⟨_, rfl⟩
  rw [← hV1]
  have hz1 : V1.heap.size = w.heap.size + 2 := by rw [hV1, World.size_alloc]; omega
  have hn1 : V1.heap[w.heap.size + 1]? = some (.cells #[.int .i64 0] 31) := by have h := hV1 ▸ blk_new V0 (.cells #[.int .i64 0] 31); rwa [hz0] at h
  have hl1 : Below V0.heap.size V0 V1 := hV1 ▸ below_alloc (Below.refl _ _) _
  obtain ⟨V2, hV2⟩ : ∃ V2, V2 = V1.alloc (.cells #[.int .i64 b, .pointer none, .slice none 0 0, .string ⟨#[]⟩, .string ⟨#[]⟩, .int .u64 0, .pointer none, .slice none 0 0] 130) := ⟨_, rfl⟩
  rw [← hV2]
  have hz2 : V2.heap.size = w.heap.size + 3 := by rw [hV2, World.size_alloc]; omega
  have hn2 : V2.heap[w.heap.size + 2]? = some (.cells #[.int .i64 b, .pointer none, .slice none 0 0, .string ⟨#[]⟩, .string ⟨#[]⟩, .int .u64 0, .pointer none, .slice none 0 0] 130) := by have h := hV2 ▸ blk_new V1 (.cells #[.int .i64 b, .pointer none, .slice none 0 0, .string ⟨#[]⟩, .string ⟨#[]⟩, .int .u64 0, .pointer none, .slice none 0 0] 130); rwa [hz1] at h
  have hl2 : Below V1.heap.size V1 V2 := hV2 ▸ below_alloc (Below.refl _ _) _
  obtain ⟨V3, hV3⟩ : ∃ V3, V3 = V2.alloc (.cells #[.pointer (some ⟨w.heap.size + 1 + 1, 0, none⟩)] 125) := ⟨_, rfl⟩
  rw [← hV3]
  have hz3 : V3.heap.size = w.heap.size + 4 := by rw [hV3, World.size_alloc]; omega
  have hn3 : V3.heap[w.heap.size + 3]? = some (.cells #[.pointer (some ⟨w.heap.size + 1 + 1, 0, none⟩)] 125) := by have h := hV3 ▸ blk_new V2 (.cells #[.pointer (some ⟨w.heap.size + 1 + 1, 0, none⟩)] 125); rwa [hz2] at h
  have hl3 : Below V2.heap.size V2 V3 := hV3 ▸ below_alloc (Below.refl _ _) _
  obtain ⟨V4, hV4⟩ : ∃ V4, V4 = V3.alloc (.cells #[.int .i64 0] 31) := ⟨_, rfl⟩
  rw [← hV4]
  have hz4 : V4.heap.size = w.heap.size + 5 := by rw [hV4, World.size_alloc]; omega
  have hn4 : V4.heap[w.heap.size + 4]? = some (.cells #[.int .i64 0] 31) := by have h := hV4 ▸ blk_new V3 (.cells #[.int .i64 0] 31); rwa [hz3] at h
  have hl4 : Below V3.heap.size V3 V4 := hV4 ▸ below_alloc (Below.refl _ _) _
  obtain ⟨V5, hV5⟩ : ∃ V5, V5 = V4.alloc (.cells #[.bool false] 4) := ⟨_, rfl⟩
  rw [← hV5]
  have hz5 : V5.heap.size = w.heap.size + 6 := by rw [hV5, World.size_alloc]; omega
  have hn5 : V5.heap[w.heap.size + 5]? = some (.cells #[.bool false] 4) := by have h := hV5 ▸ blk_new V4 (.cells #[.bool false] 4); rwa [hz4] at h
  have hl5 : Below V4.heap.size V4 V5 := hV5 ▸ below_alloc (Below.refl _ _) _
  obtain ⟨V6, hV6⟩ : ∃ V6, V6 = V5.alloc (.cells #[.string ⟨#[]⟩] 9) := ⟨_, rfl⟩
  rw [← hV6]
  have hz6 : V6.heap.size = w.heap.size + 7 := by rw [hV6, World.size_alloc]; omega
  have hn6 : V6.heap[w.heap.size + 6]? = some (.cells #[.string ⟨#[]⟩] 9) := by have h := hV6 ▸ blk_new V5 (.cells #[.string ⟨#[]⟩] 9); rwa [hz5] at h
  have hl6 : Below V5.heap.size V5 V6 := hV6 ▸ below_alloc (Below.refl _ _) _
  have HG0 := Lib.hid (blk_below' (blk_below' (blk_below' (blk_below' (blk_below' (blk_below' hn0 hl1) hl2) hl3) hl4) hl5) hl6)
  have HG1 := Lib.hid (blk_below' (blk_below' (blk_below' (blk_below' (blk_below' hn1 hl2) hl3) hl4) hl5) hl6)
  have HG2 := Lib.hid (blk_below' (blk_below' (blk_below' (blk_below' hn2 hl3) hl4) hl5) hl6)
  have HG3 := Lib.hid (blk_below' (blk_below' (blk_below' hn3 hl4) hl5) hl6)
  have HG4 := Lib.hid (blk_below' (blk_below' hn4 hl5) hl6)
  have HG5 := Lib.hid (blk_below' hn5 hl6)
  have HG6 := Lib.hid hn6
  have HBL := Lib.hid (show Below w.heap.size w V6 from hl0 |>.trans (hl1.mono (by omega)) |>.trans (hl2.mono (by omega)) |>.trans (hl3.mono (by omega)) |>.trans (hl4.mono (by omega)) |>.trans (hl5.mono (by omega)) |>.trans (hl6.mono (by omega)))
  have HSZ := Lib.hid hz6
  clear hV0 hz0 hn0 hl0 hV1 hz1 hn1 hl1 hV2 hz2 hn2 hl2 hV3 hz3 hn3 hl3 hV4 hz4 hn4 hl4 hV5 hz5 hn5 hl5 hV6 hz6 hn6 hl6
  have hmk : Mk V6 (w.heap.size + 2) (w.heap.size + 7) (fun k => w.heap.size + 7 ≤ k) b ms0 := ⟨.pointer none, .pointer none, .slice none 0 0, .slice none 0 0, .inl rfl, .inl rfl, HG2.out, World.ownsRow_nil _ _ _ _, World.ownsRow_nil _ _ _ _, fun k hk => by simp [Value.ownBlock] at hk, fun k hk => by simp [Value.ownBlock] at hk, fun k hk => by simp [Value.ownBlock] at hk, fun k hk => by omega⟩
  have HMK := Lib.hid hmk
  clear hmk
  refine (wpIn_wide (n := 6)).1 ?_
  refine range_enter (n := 5) 105 #[.pointer (some ⟨b1, 0, none⟩), .pointer (some ⟨b2, 0, none⟩)] rfl (enters_of Try.func105 (by kernel_rfl) rfl) ?_
  intro r W1 hr hpn hps has hbd htm hl hD hbw1 hs1
  have HRR := Lib.hid hr
  have HPN := Lib.hid hpn
  have HL1 := Lib.hid hl
  have HD1 := Lib.hid hD
  have HS1 := Lib.hid (show W1.heap.size = w.heap.size + 9 by have := HSZ.out; omega)
  have HBW := Lib.hid (HBL.out.trans (hbw1.mono HBL.out.size))
  have HB6 := Lib.hid hbw1
  have HLL := Lib.hid hlen
  clear hr hpn hl hD hbw1 hs1 hlen
  obtain ⟨l2, hl2⟩ : ∃ l2, l2 = V6.heap.size + 1 := ⟨_, rfl⟩
  have HL2 := Lib.hid (show l2 = w.heap.size + 8 by have := HSZ.out; omega)
  rw [← hl2] at HL1 ⊢
  clear hl2
  have hlt1 := blk_lt H1.out
  have hlt2 := blk_lt H2.out
  refine (Over1_in 5 l2 b1 b2 (by decide) ks cs HLL.out (by omega) A B cA cB (fun k => w.heap.size ≤ k) W1 (blk_below' H1.out HBW.out) (blk_below' H2.out HBW.out) (Kd.F_mono (Kd.F_below HA.out HBW.out) (fun k hk => by have h : k < w.heap.size := hk; omega)) (Kd.F_mono (Kd.F_below HB.out HBW.out) (fun k hk => by have h : k < w.heap.size := hk; omega)) (by omega) (by omega)
    (fun j W' => (goB b (rows.take j) none ms0).1 = 0 ∧ Below w.heap.size w W' ∧ W'.heap[w.heap.size]? = some (.cells #[.string ⟨#[]⟩] 9 (0, 0)) ∧ W'.heap[w.heap.size + 1]? = some (.cells #[.int .i64 0] 31 (0, 0)) ∧ W'.heap[w.heap.size + 3]? = some (.cells #[.pointer (some ⟨w.heap.size + 2, 0, none⟩)] 125 (0, 0)) ∧ W'.heap[w.heap.size + 4]? = some (.cells #[.int .i64 0] 31 (0, 0)) ∧ W'.heap[w.heap.size + 5]? = some (.cells #[.bool (decide (j ≠ 0))] 4 (0, 0)) ∧ W'.heap[w.heap.size + 6]? = some (.cells #[.string ((lastL none (rows.take j)).getD ⟨#[]⟩)] 9 (0, 0)) ∧ Mk W' (w.heap.size + 2) (w.heap.size + 7) (fun k => w.heap.size + 9 ≤ k) b (goB b (rows.take j) none ms0).2 ∧ W'.heap[l2]? = some (.loop r) ∧ W'.heap[V6.heap.size]? = some (.deferred (some [])) ∧ w.heap.size + 9 ≤ W'.heap.size)
    (fun W' => (goB b rows none ms0).1 ≠ 0 ∧ Below w.heap.size w W' ∧ W'.heap[w.heap.size]? = some (.cells #[.string ⟨#[]⟩] 9 (0, 0)) ∧ W'.heap[w.heap.size + 1]? = some (.cells #[.int .i64 (goB b rows none ms0).1] 31 (0, 0)) ∧ (∃ r2 : Loop, W'.heap[l2]? = some (.loop r2) ∧ r2.state = .done ∧ r2.pending = some .ret) ∧ W'.heap[V6.heap.size]? = some (.deferred (some [])))
    ?hY ?h0).mono ?post
  case hY =>
    rintro j W3 ⟨hg0, hb3, hS, hE, h6, h7, h8, h9, hmk, hlp, hdf, hsz⟩ hjn hws
    obtain ⟨rb, hrb⟩ : ∃ rb : Loop, rb = { r with state := .busy } := ⟨_, rfl⟩
    refine round_enter2 rb hrb hlp HRR.out (by rw [hps]; rfl) ?_
    rw [has, hbd, htm, hps]
    have HJ := Lib.hid (⟨hg0, hb3, hS, hE, h6, h7, h8, h9, hmk, hlp, hdf, hsz⟩ : (goB b (rows.take j) none ms0).1 = 0 ∧ Below w.heap.size w W3 ∧ W3.heap[w.heap.size]? = some (.cells #[.string ⟨#[]⟩] 9 (0, 0)) ∧ W3.heap[w.heap.size + 1]? = some (.cells #[.int .i64 0] 31 (0, 0)) ∧ W3.heap[w.heap.size + 3]? = some (.cells #[.pointer (some ⟨w.heap.size + 2, 0, none⟩)] 125 (0, 0)) ∧ W3.heap[w.heap.size + 4]? = some (.cells #[.int .i64 0] 31 (0, 0)) ∧ W3.heap[w.heap.size + 5]? = some (.cells #[.bool (decide (j ≠ 0))] 4 (0, 0)) ∧ W3.heap[w.heap.size + 6]? = some (.cells #[.string ((lastL none (rows.take j)).getD ⟨#[]⟩)] 9 (0, 0)) ∧ Mk W3 (w.heap.size + 2) (w.heap.size + 7) (fun k => w.heap.size + 9 ≤ k) b (goB b (rows.take j) none ms0).2 ∧ W3.heap[l2]? = some (.loop r) ∧ W3.heap[V6.heap.size]? = some (.deferred (some [])) ∧ w.heap.size + 9 ≤ W3.heap.size)
    obtain ⟨kx, hkx⟩ : ∃ kx, kx = ks.getD j ⟨#[]⟩ := ⟨_, rfl⟩
    obtain ⟨cx, hcx⟩ : ∃ cx, cx = cs.getD j z38 := ⟨_, rfl⟩
    rw [← hkx, ← hcx]
    have HRB := Lib.hid hrb
    have HKX := Lib.hid hkx
    have HCX := Lib.hid hcx
    have i6 := blk_cell h6 0
    clear hg0 hb3 hS hE h6 h7 h8 h9 hmk hlp hdf hsz hrb hkx hcx
    gi_wp2
    obtain ⟨hg0, hb3, hS, hE, h6, h7, h8, h9, hmk, hlp, hdf, hsz⟩ := HJ.out
    obtain ⟨w5, hw5⟩ : ∃ w5, w5 = W3.alloc (.cells #[.string cx.f0, .bool cx.f1] 38) := ⟨_, rfl⟩
    rw [← hw5]
    have hb5 : Below W3.heap.size W3 w5 := hw5 ▸ below_alloc (Below.refl _ _) _
    have hn5 : w5.heap[W3.heap.size]? = some (.cells #[.string cx.f0, .bool cx.f1] 38) := hw5 ▸ blk_new W3 _
    have hl5 : w5.heap[l2]? = some (.loop r) := (hb5.block _ (blk_lt hlp)).trans hlp
    refine ⟨hl5, ?_⟩
    obtain ⟨w6, hw6⟩ : ∃ w6, w6 = w5.putObj l2 (.loop rb) := ⟨_, rfl⟩
    rw [← hw6]
    have hl6 : w6.heap[l2]? = some (.loop rb) := hw6 ▸ World.putObj_heap_same (blk_lt hl5)
    have ho6 : ∀ k, k ≠ l2 → w6.heap[k]? = w5.heap[k]? := fun k hk => hw6 ▸ World.putObj_heap_other hk
    have hs6 : w6.heap.size = w5.heap.size := by rw [hw6]; simp
    have C77 := Lib.hid (may_calls ⟨kx, cx.f0, cx.f1⟩ w6)
    have HBW6 := Lib.hid (show Below w.heap.size w w6 from Below.grown (hb3.trans (hb5.mono hb3.size)) (hw6 ▸ grownBy_put w5 l2 _) (by have := hb3.size; have := hb5.size; omega) (fun b e => by injection e with e; have := HL2.out; omega))
    have HB5 := Lib.hid hb5
    have HN6 := Lib.hid ((ho6 W3.heap.size (by have := blk_lt hlp; omega)).trans hn5)
    have HL6 := Lib.hid hl6
    have HO6 := Lib.hid ho6
    have hk6 : ∀ k, k < W3.heap.size → k ≠ l2 → w6.heap[k]? = W3.heap[k]? := fun k h1 h2 => (ho6 k h2).trans (hb5.block k h1)
    have HK6 := Lib.hid hk6
    have HS6 := Lib.hid (show W3.heap.size < w6.heap.size by rw [hs6]; exact blk_lt hn5)
    have h26 := HL2.out
    have g1 := (hk6 (w.heap.size + 1) (by omega) (by omega)).trans hE
    have g3 := (hk6 (w.heap.size + 3) (by omega) (by omega)).trans h6
    have g4 := (hk6 (w.heap.size + 4) (by omega) (by omega)).trans h7
    have g5 := (hk6 (w.heap.size + 5) (by omega) (by omega)).trans h8
    have g6 := (hk6 (w.heap.size + 6) (by omega) (by omega)).trans h9
    have R0 := rangeAt_of_blk HN6.out
    have G3 := Lib.hid g3
    have G4 := Lib.hid g4
    have G5 := Lib.hid g5
    have G6 := Lib.hid g6
    have c3 := blk_cell g3 0
    clear i6 hg0 hb3 hS hE h6 h7 h8 h9 hmk hlp hdf hsz hb5 hn5 hl5 hl6 ho6 hs6 hk6 hw5 hw6 h26 g1 g3 g4 g5 g6
    gi_wp2_with (first | ((with_reducible refine gate_dstIn (N := 28) rfl ?_); refine wpListIn_load_row rfl 38 (.tmp 11) rfl W3.heap.size rfl [.string cx.f0, .bool cx.f1] 38 _ HN6.out Try.underlying38 rfl (by kernel_rfl) ?_))
    refine ⟨trivial, (CallsIn.inRound l2 (callsIn_wide.2 C77.out)).mono ?_⟩
    rintro e w7 ⟨rfl, hb7⟩
    obtain ⟨mn, hmn⟩ : ∃ mn, mn = mayN ⟨kx, cx.f0, cx.f1⟩ := ⟨_, rfl⟩
    rw [← hmn]
    have HMN := Lib.hid hmn
    have HB7 := Lib.hid hb7
    have G47 := Lib.hid (blk_below G4.out hb7)
    have G57 := Lib.hid (blk_below G5.out hb7)
    have G67 := Lib.hid (blk_below G6.out hb7)
    clear hmn hb7 R0
    by_cases hm0 : mn = 0
    case neg =>
      have hd0 : decide ((mn : Int) = 0) = false := by simp; omega
      have he0 : ((mn : Int) == 0) = false := by simp; omega
      gi_wp2_with (first | (refine wpListIn_store_one (F := Fence.wide.inRound l2) rfl rfl 31 (.tmp 7) (.tmp 29) rfl (g := w.heap.size + 4) (v := .int .i64 mn) rfl rfl G47.out (by kernel_rfl) rfl rfl ?_; intro w8 hz8 hg8; have HZ8 := Lib.hid hz8; have HB8 := Lib.hid hg8; have c8 := (blk_cell hz8 0).trans rfl; clear hz8 hg8))
      have GB := Lib.hid (fun k o (h : w6.heap[k]? = some o) (hk : k ≠ w.heap.size + 4) => grown_blk HB8.out (blk_below h HB7.out) hk)
      have BB := Lib.hid (show Below w.heap.size w w8 from Below.grown (HBW6.out.trans (HB7.out.mono HBW6.out.size)) HB8.out (by have := HBW6.out.size; have := HB7.out.size; omega) (fun b e => by injection e with e; omega))
      have hJ := HJ.out
      obtain ⟨hg0, hb3, hS, hE, h6, h7, h8, h9, hmk, hlp, hdf, hsz⟩ := hJ
      have h26 := HL2.out
      have hk6 := HK6.out
      have hz8 := HSZ.out
      have a0 := GB.out _ _ ((hk6 _ (by omega) (by omega)).trans hS) (by omega)
      have a1 := GB.out _ _ ((hk6 _ (by omega) (by omega)).trans hE) (by omega)
      have aD := GB.out _ _ ((hk6 _ (by omega) (by omega)).trans hdf) (by omega)
      have aL := GB.out _ _ HL6.out (by omega)
      have hbb : Below w.heap.size w w8 := BB.out
      have A0 := Lib.hid a0
      have A1 := Lib.hid a1
      have AD := Lib.hid aD
      have AL := Lib.hid aL
      have ABB := Lib.hid hbb
      have c0 := (blk_cell a0 0).trans rfl
      have f0 := blk_frozen a0 0
      have hs8 : w8.drew.cell? ⟨w.heap.size + 4, 0, none⟩ = some (.int .i64 mn) := c8.trans rfl
      clear a0 a1 aD aL hbb hg0 hb3 hS hE h6 h7 h8 h9 hmk hlp hdf hsz hk6 hz8
      refine startR_ (k := 3) (S := fun w' => w'.cell? ⟨w.heap.size + 4, 0, none⟩ = some (.int .i64 mn)) (ds := [2]) #[false, false, false] (by kernel_rfl) rfl rfl (noDefer_spec (by kernel_rfl)) (by rintro ⟨_, _, h⟩; exact h) hs8 (fun hHeld => ?_)
      refine take_ (i := 0) (N := some 42) (v := ?_) (a' := ?_) #[true, false, false] rfl rfl (by kernel_rfl) (fun _ _ _ h => h) (Or.inl ⟨by rfl, ?_⟩) hHeld ?_ ?_
      rotate_left
      · rintro w' s0
        go_simp
        with_reducible rfl
      rotate_left
      · simp only [Act.put, List.setIfInBounds_toArray, List.set_cons_zero, List.set_cons_succ, i64_w, i32_w]
        rfl
      refine one_ (i := 1) (N := none) #[true, true, false] rfl rfl (by kernel_rfl) (by decide) (fun K hK => ?_)
      refine skip_ (w1 := w8.drew.setCell ⟨w.heap.size, 0, none⟩ (.string ⟨#[]⟩)) (by rfl) rfl (by go_simp) ?_
      refine hK.out _ _ (by rw [cell_far (by show w.heap.size + 4 ≠ w.heap.size; omega)]; exact hHeld) (fun hHeld => ?_)
      clear hK K
      refine last_ (i := 2) (N := none) #[true, true, true] rfl rfl (by kernel_rfl) (by decide) (fun K hK => ?_)
      have b1 : (w8.drew.setCell ⟨w.heap.size, 0, none⟩ (.string ⟨#[]⟩)).heap[w.heap.size + 1]? = some (.cells #[.int .i64 0] 31 (0, 0)) := blk_far A1.out (p := ⟨w.heap.size, 0, none⟩) (by show w.heap.size + 1 ≠ w.heap.size; omega) _
      have c1 := (blk_cell A1.out 0).trans rfl
      have f1 := blk_frozen A1.out 0
      have B1 := Lib.hid b1
      clear b1
      refine skip_ (w1 := (w8.drew.setCell ⟨w.heap.size, 0, none⟩ (.string ⟨#[]⟩)).setCell ⟨w.heap.size + 1, 0, none⟩ (.int .i64 mn)) (by rfl) rfl (by go_simp) ?_
      refine hK.out _ _ ?_
      clear hK K
      refine done_ (by kernel_rfl) ?_
      clear hHeld
      obtain ⟨W9, hW9⟩ : ∃ W9, W9 = (w8.drew.setCell ⟨w.heap.size, 0, none⟩ (.string ⟨#[]⟩)).setCell ⟨w.heap.size + 1, 0, none⟩ (.int .i64 mn) := ⟨_, rfl⟩
      rw [← hW9]
      have hfar : ∀ k, k ≠ w.heap.size → k ≠ w.heap.size + 1 → W9.heap[k]? = w8.heap[k]? := fun k h1 h2 => by rw [hW9]; exact (Below.heap_setCell _ _ _ k h2).trans (Below.heap_setCell _ _ _ k h1)
      have E0 := Lib.hid (show W9.heap[w.heap.size]? = some (.cells #[.string ⟨#[]⟩] 9 (0, 0)) by rw [hW9]; exact blk_far (blk_set (w := w8.drew) A0.out 0 _) (p := ⟨w.heap.size + 1, 0, none⟩) (by show w.heap.size ≠ w.heap.size + 1; omega) _)
      have E1 := Lib.hid (show W9.heap[w.heap.size + 1]? = some (.cells #[.int .i64 mn] 31 (0, 0)) by rw [hW9]; exact blk_set B1.out 0 _)
      have EL := Lib.hid (show W9.heap[l2]? = some (.loop rb) from (hfar _ (by omega) (by omega)).trans AL.out)
      have ED := Lib.hid (show W9.heap[V6.heap.size]? = some (.deferred (some [])) from (hfar _ (by have := HSZ.out; omega) (by have := HSZ.out; omega)).trans AD.out)
      have EB := Lib.hid (show Below w.heap.size w W9 by rw [hW9]; exact ((below_drew1 ABB.out).setCell (p := ⟨w.heap.size, 0, none⟩) (Nat.le_refl _) _).setCell (p := ⟨w.heap.size + 1, 0, none⟩) (Nat.le_succ _) _)
      clear hW9 hfar c0 f0 hs8 c1 f1 h26
      gi_wp2
      refine ⟨_, _, run_endRound (some .ret) EL.out, .inr ⟨rfl, ?_⟩⟩
      have hgo : (goB b rows none ms0).1 = mn := goB_err b rows j (by rw [HR.out, rowsOf_length _ _ HLL.out]; exact hjn) mn HJ.out.1 (by rw [HR.out, rowsOf_getD _ _ HLL.out j hjn, ← HKX.out, ← HCX.out]; unfold rowE; rw [← HMN.out, if_neg hm0]) hm0
      have h26 := HL2.out
      have hz8 := HSZ.out
      have ho : ∀ k, k ≠ l2 → (W9.putObj l2 (.loop { rb with state := if (some Code.ret).isNone then .ready else .done, pending := some .ret })).heap[k]? = W9.heap[k]? := fun k hk => World.putObj_heap_other hk
      rw [hgo]
      exact ⟨hm0, Below.grown EB.out (grownBy_put W9 l2 _) (by have := EB.out.size; omega) (fun b e => by injection e with e; omega), (ho _ (by omega)).trans E0.out, (ho _ (by omega)).trans E1.out, ⟨_, World.putObj_heap_same (blk_lt EL.out), rfl, rfl⟩, (ho _ (by omega)).trans ED.out⟩
    case pos =>
      subst hm0
      have he0 : (((0 : Nat) : Int) == 0) = true := rfl
      have hq0 : (((0 : Nat) : Int) != 0) = false := rfl
      obtain ⟨lst, hlst⟩ : ∃ lst, lst = (lastL none (rows.take j)).getD ⟨#[]⟩ := ⟨_, rfl⟩
      obtain ⟨an, han⟩ : ∃ an, an = decide (j ≠ 0) := ⟨_, rfl⟩
      rw [← hlst] at G67
      rw [← han] at G57
      have HLST := Lib.hid hlst
      have HAN := Lib.hid han
      clear hlst han
      cases an
      case false =>
        have HRE := Lib.hid (show rowE (lastL none (rows.take j)) ⟨kx, cx.f0, cx.f1⟩ = 0 by
          have hj0 : j = 0 := by have := HAN.out; simp at this; exact this
          rw [hj0]; unfold rowE; rw [← HMN.out, if_pos rfl]; rfl)
        gi_wp2_with (first | (refine wpListIn_store_one (F := Fence.wide.inRound l2) rfl rfl 31 (.tmp 7) (.tmp 29) rfl (g := w.heap.size + 4) (v := .int .i64 0) rfl rfl G47.out (by kernel_rfl) rfl rfl ?_; intro w8 hz8 hg8; have HZ8 := Lib.hid hz8; have HB8 := Lib.hid hg8; have c8 := (blk_cell hz8 0).trans rfl; have G58 := Lib.hid (grown_blk hg8 G57.out (by omega)); have G68 := Lib.hid (grown_blk hg8 G67.out (by omega)); have c5 := (blk_cell G58.out 0).trans rfl; have c6 := (blk_cell G68.out 0).trans rfl; clear hz8 hg8) | (refine wpListIn_store_one (F := Fence.wide.inRound l2) rfl rfl 4 (.tmp 8) (.const (.bool true)) rfl (g := w.heap.size + 5) (v := .bool true) rfl rfl G58.out (by kernel_rfl) rfl rfl ?_; intro w9 hz9 hg9; have HZ9 := Lib.hid hz9; have HB9 := Lib.hid hg9; clear hz9 hg9) | (refine wpListIn_store_one (F := Fence.wide.inRound l2) rfl rfl 9 (.tmp 9) (.tmp 43) rfl (g := w.heap.size + 6) (v := .string kx) rfl rfl (grown_blk HB9.out G68.out (by omega)) (by kernel_rfl) rfl rfl ?_; intro w10 hz10 hg10; have HZ10 := Lib.hid hz10; have HB10 := Lib.hid hg10; clear hz10 hg10; have HK10 := Lib.hid (fun k (hk : k < w6.heap.size) (h4 : k ≠ w.heap.size + 4) (h5 : k ≠ w.heap.size + 5) (h6 : k ≠ w.heap.size + 6) => by have s7 := HB7.out.size; have s8 := HB8.out.size; have s9 := HB9.out.size; exact (HB10.out.block k (by omega) (fun e => h6 (by injection e))).trans ((HB9.out.block k (by omega) (fun e => h5 (by injection e))).trans ((HB8.out.block k (by omega) (fun e => h4 (by injection e))).trans (HB7.out.block k hk)))); have c3 := (blk_cell ((HK10.out (w.heap.size + 3) (by have := HS6.out; have := HJ.out.2.2.2.2.2.2.2.2.2.2.2; omega) (by omega) (by omega) (by omega)).trans G3.out) 0).trans rfl) | ((with_reducible refine gate_dstIn (N := 46) rfl ?_); refine wpListIn_load_row rfl 38 (.tmp 11) rfl W3.heap.size rfl [.string cx.f0, .bool cx.f1] 38 _ ((HK10.out W3.heap.size HS6.out (by have := HJ.out.2.2.2.2.2.2.2.2.2.2.2; omega) (by have := HJ.out.2.2.2.2.2.2.2.2.2.2.2; omega) (by have := HJ.out.2.2.2.2.2.2.2.2.2.2.2; omega)).trans HN6.out) Try.underlying38 rfl (by kernel_rfl) ?_))
        have hK10 := HK10.out
        have hJ := HJ.out
        obtain ⟨hg0, hb3, hS, hE, h6, h7, h8, h9, hmk, hlp, hdf, hsz⟩ := hJ
        have h26 := HL2.out
        have hz8 := HSZ.out
        have hs6 := HS6.out
        have hs7 := HB7.out.size
        have hs8 := HB8.out.size
        have hs9 := HB9.out.size
        have hs10 := HB10.out.size
        obtain ⟨m, hm⟩ : ∃ m, m = (goB b (rows.take j) none ms0).2 := ⟨_, rfl⟩
        rw [← hm] at hmk
        have hbb : Below w.heap.size w w10 := Below.grown (Below.grown (Below.grown (HBW6.out.trans (HB7.out.mono HBW6.out.size)) HB8.out (by have := HBW6.out.size; omega) (fun b e => by injection e with e; omega)) HB9.out (by have := HBW6.out.size; omega) (fun b e => by injection e with e; omega)) HB10.out (by have := HBW6.out.size; omega) (fun b e => by injection e with e; omega)
        have hk3 : ∀ k, k < W3.heap.size → k ≠ l2 → k ≠ w.heap.size + 4 → k ≠ w.heap.size + 5 → k ≠ w.heap.size + 6 → w10.heap[k]? = W3.heap[k]? := fun k a1 a2 a3 a4 a5 => (hK10 k (by omega) a3 a4 a5).trans (HK6.out k a1 a2)
        have hm10 : Mk w10 (w.heap.size + 2) (w.heap.size + 7) (fun k => w.heap.size + 9 ≤ k) b m := hmk.moved (S := fun k => k = l2 ∨ k = w.heap.size + 4 ∨ k = w.heap.size + 5 ∨ k = w.heap.size + 6) ⟨hbb.os.trans hb3.os.symm, hbb.tape.trans hb3.tape.symm, hbb.output.trans hb3.output.symm, by omega, fun k hk hn => hk3 k hk (fun e => hn (.inl e)) (fun e => hn (.inr (.inl e))) (fun e => hn (.inr (.inr (.inl e)))) (fun e => hn (.inr (.inr (.inr e))))⟩ (by rintro k hk (h | h) <;> omega)
        obtain ⟨bl, cur, hmb, hfl⟩ := goB_mb (b := b) hb1 (rows.take j) none ms0 [] [] MB.zero hg0
        rw [← hm] at hmb
        have hbd2 := hmb.bounds
        have hbn : bl.length ≤ j := by
          have h1 := BlkOk.len hmb.ok
          have h2 : bl.flatten.length + cur.length = (rows.take j).length := by rw [← List.length_append, hfl]; simp
          have h3 : (rows.take j).length ≤ j := by rw [List.length_take]; omega
          omega
        have hmay : mayN ⟨kx, cx.f0, cx.f1⟩ = 0 := HMN.out.symm
        have C78 := Lib.hid (add_calls (w.heap.size + 2) (w.heap.size + 7) (fun k => w.heap.size + 9 ≤ k) b m ⟨kx, cx.f0, cx.f1⟩ w10 hm10 (by have := hbb.size; omega) (fun k hk => by omega) (by have := hmb.fs; omega) (by have := hmb.sz; omega) (by omega) (by omega) (by rw [hmb.many]; omega) (mayN_ok hmay).1 (mayN_ok hmay).2)
        have HHB := Lib.hid hbb
        have HK3 := Lib.hid hk3
        have HM := Lib.hid hm
        clear hK10 hg0 hb3 hS hE h6 h7 h8 h9 hmk hlp hdf hsz hz8 hs7 hs8 hs9 hs10 hm hbb hk3 hm10 hmb hfl hbd2 hbn hmay
        refine ⟨trivial, (CallsIn.inRound l2 (callsIn_wide.2 C78.out)).mono ?_⟩
        rintro e w11 ⟨rfl, hm11, ho11⟩
        have HM11 := Lib.hid hm11
        have HO11 := Lib.hid ho11
        clear hm11 ho11 h26 hs6 c3
        gi_wp2
        have h26 := HL2.out
        have hs6 := HS6.out
        have hj := HJ.out
        have hss : W3.heap.size ≤ w10.heap.size := by have := HB7.out.size; have := HB8.out.size; have := HB9.out.size; have := HB10.out.size; omega
        have h11 : ∀ k, k < w.heap.size + 9 → k ≠ w.heap.size + 2 → k < w10.heap.size → w11.heap[k]? = w10.heap[k]? := fun k h1 h2 h3 => HO11.out.block k h3 (fun h => by rcases h with h | h; exact h2 h; have h : w.heap.size + 9 ≤ k := h; omega)
        have hl10 : w10.heap[l2]? = some (.loop rb) := (HK10.out l2 (by have := blk_lt HL6.out; omega) (by omega) (by omega) (by omega)).trans HL6.out
        have hl11 : w11.heap[l2]? = some (.loop rb) := (h11 l2 (by omega) (by omega) (blk_lt hl10)).trans hl10
        refine round_goes hl11 (.inl ⟨rfl, ?_, ?_⟩)
        all_goals
          have hrr : ({ rb with state := .ready, pending := none } : Loop) = r := by rw [HRB.out]; exact rec_back HRR.out HPN.out
          rw [hrr]
          have ho : ∀ k, k ≠ l2 → (w11.putObj l2 (.loop r)).heap[k]? = w11.heap[k]? := fun k hk => World.putObj_heap_other hk
          have hb11 : Below w.heap.size w w11 := HHB.out.trans ⟨HO11.out.os, HO11.out.tape, HO11.out.output, HO11.out.size, fun k hk => HO11.out.block k (by have := HHB.out.size; omega) (fun h => by rcases h with h | h; omega; have h : w.heap.size + 9 ≤ k := h; omega)⟩
          have hb12 : Below w.heap.size w (w11.putObj l2 (.loop r)) := Below.grown hb11 (grownBy_put w11 l2 _) hb11.size (fun b e => by injection e with e; omega)
        · obtain ⟨hg0, hb3, hS, hE, h6, h7, h8, h9, hmk, hlp, hdf, hsz⟩ := hj
          have hgo := goB_good b rows j (by rw [HR.out, rowsOf_length _ _ HLL.out]; exact hjn) hg0 (by rw [HR.out, rowsOf_getD _ _ HLL.out j hjn, ← HKX.out, ← HCX.out, ← HR.out]; exact HRE.out)
          have hx : rows.getD j rz = ⟨kx, cx.f0, cx.f1⟩ := by rw [HR.out, rowsOf_getD _ _ HLL.out j hjn, ← HKX.out, ← HCX.out]
          rw [hx, ← HM.out] at hgo
          have a10 : ∀ k, k < w.heap.size + 9 → k ≠ w.heap.size + 2 → k ≠ l2 → k ≠ w.heap.size + 4 → k ≠ w.heap.size + 5 → k ≠ w.heap.size + 6 → (w11.putObj l2 (.loop r)).heap[k]? = W3.heap[k]? := fun k a1 a2 a3 a4 a5 a6 => (ho k a3).trans ((h11 k a1 a2 (by omega)).trans (HK3.out k (by omega) a3 a4 a5 a6))
          have z4 := grown_blk HB10.out (grown_blk HB9.out HZ8.out (by omega)) (by omega)
          have z5 := grown_blk HB10.out HZ9.out (by omega)
          rw [hgo.1, hgo.2]
          refine ⟨rfl, hb12, (a10 _ (by omega) (by omega) (by omega) (by omega) (by omega) (by omega)).trans hS, (a10 _ (by omega) (by omega) (by omega) (by omega) (by omega) (by omega)).trans hE, (a10 _ (by omega) (by omega) (by omega) (by omega) (by omega) (by omega)).trans h6, (ho _ (by omega)).trans ((h11 _ (by omega) (by omega) (blk_lt z4)).trans z4), (ho _ (by omega)).trans ((h11 _ (by omega) (by omega) (blk_lt z5)).trans z5), (ho _ (by omega)).trans ((h11 _ (by omega) (by omega) (blk_lt HZ10.out)).trans HZ10.out), ?_, World.putObj_heap_same (blk_lt hl11), ?_, ?_⟩
          · exact HM11.out.moved (S := fun k => k = l2) ⟨rfl, rfl, rfl, by simp, fun k hk hn => ho k hn⟩ (by rintro k hk (h | h) <;> omega)
          · have := HSZ.out
            exact (a10 _ (by omega) (by omega) (by omega) (by omega) (by omega) (by omega)).trans hdf
          · have := HO11.out.size
            simp only [World.putObj, Array.size_setIfInBounds]
            omega
        · refine ⟨by have := HO11.out.size; simp only [World.putObj, Array.size_setIfInBounds]; omega, fun k hk hn => ?_⟩
          have hn : ¬ w.heap.size ≤ k := hn
          exact (hb12.block k (by omega)).trans (hj.2.1.block k (by omega)).symm
      case true =>
        have hjne : j ≠ 0 := by have := HAN.out; simp at this; exact this
        have hll := lastL_ne rows j (by rw [HR.out, rowsOf_length _ _ HLL.out]; exact hjn) hjne
        rw [← HLST.out] at hll
        by_cases hle : leB kx lst = true
        · have HRE := Lib.hid (show rowE (lastL none (rows.take j)) ⟨kx, cx.f0, cx.f1⟩ = 8 by
            rw [hll]; unfold rowE; rw [← HMN.out, if_pos rfl]; exact if_pos hle)
          have hle2 : ∀ W, Sem.run Try.prog (binOp BinOp.leq 9 (.string kx) (.string lst)) W = .ok (.bool true) W := fun W => by rw [run_leq, hle]
          clear hle hll hjne
          gi_wp2_with (first | (refine wpListIn_store_one (F := Fence.wide.inRound l2) rfl rfl 31 (.tmp 7) (.tmp 29) rfl (g := w.heap.size + 4) (v := .int .i64 0) rfl rfl G47.out (by kernel_rfl) rfl rfl ?_; intro w8 hz8 hg8; have HZ8 := Lib.hid hz8; have HB8 := Lib.hid hg8; have c8 := (blk_cell hz8 0).trans rfl; have G58 := Lib.hid (grown_blk hg8 G57.out (by omega)); have G68 := Lib.hid (grown_blk hg8 G67.out (by omega)); have c5 := (blk_cell G58.out 0).trans rfl; have c6 := (blk_cell G68.out 0).trans rfl; clear hz8 hg8) | (refine wpListIn_store_one (F := Fence.wide.inRound l2) rfl rfl 31 (.tmp 7) (.const (.int .i64 8)) rfl (g := w.heap.size + 4) (v := .int .i64 8) rfl rfl HZ8.out (by kernel_rfl) rfl rfl ?_; intro w9 hz9 hg9; have HZ9 := Lib.hid hz9; have HB9 := Lib.hid hg9; clear c8; have c9 := (blk_cell hz9 0).trans rfl; clear hz9 hg9))
          have GB := Lib.hid (fun k o (h : w6.heap[k]? = some o) (hk : k ≠ w.heap.size + 4) => grown_blk HB9.out (grown_blk HB8.out (blk_below h HB7.out) hk) hk)
          have BB := Lib.hid (show Below w.heap.size w w9 from Below.grown (Below.grown (HBW6.out.trans (HB7.out.mono HBW6.out.size)) HB8.out (by have := HBW6.out.size; have := HB7.out.size; omega) (fun b e => by injection e with e; omega)) HB9.out (by have := HBW6.out.size; have := HB7.out.size; have := HB8.out.size; omega) (fun b e => by injection e with e; omega))
          have hJ := HJ.out
          obtain ⟨hg0, hb3, hS, hE, h6, h7, h8, h9, hmk, hlp, hdf, hsz⟩ := hJ
          have h26 := HL2.out
          have hk6 := HK6.out
          have hz8 := HSZ.out
          have a0 := GB.out _ _ ((hk6 _ (by omega) (by omega)).trans hS) (by omega)
          have a1 := GB.out _ _ ((hk6 _ (by omega) (by omega)).trans hE) (by omega)
          have aD := GB.out _ _ ((hk6 _ (by omega) (by omega)).trans hdf) (by omega)
          have aL := GB.out _ _ HL6.out (by omega)
          have hbb : Below w.heap.size w w9 := BB.out
          have A0 := Lib.hid a0
          have A1 := Lib.hid a1
          have AD := Lib.hid aD
          have AL := Lib.hid aL
          have ABB := Lib.hid hbb
          have c0 := (blk_cell a0 0).trans rfl
          have f0 := blk_frozen a0 0
          have hs8 : w9.drew.cell? ⟨w.heap.size + 4, 0, none⟩ = some (.int .i64 8) := c9.trans rfl
          clear a0 a1 aD aL hbb hg0 hb3 hS hE h6 h7 h8 h9 hmk hlp hdf hsz hk6 hz8
          refine startR_ (k := 3) (S := fun w' => w'.cell? ⟨w.heap.size + 4, 0, none⟩ = some (.int .i64 8)) (ds := [2]) #[false, false, false] (by kernel_rfl) rfl rfl (noDefer_spec (by kernel_rfl)) (by rintro ⟨_, _, h⟩; exact h) hs8 (fun hHeld => ?_)
          refine take_ (i := 0) (N := some 42) (v := ?_) (a' := ?_) #[true, false, false] rfl rfl (by kernel_rfl) (fun _ _ _ h => h) (Or.inl ⟨by rfl, ?_⟩) hHeld ?_ ?_
          rotate_left
          · rintro w' s0
            go_simp
            with_reducible rfl
          rotate_left
          · simp only [Act.put, List.setIfInBounds_toArray, List.set_cons_zero, List.set_cons_succ, i64_w, i32_w]
            rfl
          refine one_ (i := 1) (N := none) #[true, true, false] rfl rfl (by kernel_rfl) (by decide) (fun K hK => ?_)
          refine skip_ (w1 := w9.drew.setCell ⟨w.heap.size, 0, none⟩ (.string ⟨#[]⟩)) (by rfl) rfl (by go_simp) ?_
          refine hK.out _ _ (by rw [cell_far (by show w.heap.size + 4 ≠ w.heap.size; omega)]; exact hHeld) (fun hHeld => ?_)
          clear hK K
          refine last_ (i := 2) (N := none) #[true, true, true] rfl rfl (by kernel_rfl) (by decide) (fun K hK => ?_)
          have b1 : (w9.drew.setCell ⟨w.heap.size, 0, none⟩ (.string ⟨#[]⟩)).heap[w.heap.size + 1]? = some (.cells #[.int .i64 0] 31 (0, 0)) := blk_far A1.out (p := ⟨w.heap.size, 0, none⟩) (by show w.heap.size + 1 ≠ w.heap.size; omega) _
          have c1 := (blk_cell A1.out 0).trans rfl
          have f1 := blk_frozen A1.out 0
          have B1 := Lib.hid b1
          clear b1
          refine skip_ (w1 := (w9.drew.setCell ⟨w.heap.size, 0, none⟩ (.string ⟨#[]⟩)).setCell ⟨w.heap.size + 1, 0, none⟩ (.int .i64 8)) (by rfl) rfl (by go_simp) ?_
          refine hK.out _ _ ?_
          clear hK K
          refine done_ (by kernel_rfl) ?_
          clear hHeld
          obtain ⟨W9, hW9⟩ : ∃ W9, W9 = (w9.drew.setCell ⟨w.heap.size, 0, none⟩ (.string ⟨#[]⟩)).setCell ⟨w.heap.size + 1, 0, none⟩ (.int .i64 8) := ⟨_, rfl⟩
          rw [← hW9]
          have hfar : ∀ k, k ≠ w.heap.size → k ≠ w.heap.size + 1 → W9.heap[k]? = w9.heap[k]? := fun k h1 h2 => by rw [hW9]; exact (Below.heap_setCell _ _ _ k h2).trans (Below.heap_setCell _ _ _ k h1)
          have E0 := Lib.hid (show W9.heap[w.heap.size]? = some (.cells #[.string ⟨#[]⟩] 9 (0, 0)) by rw [hW9]; exact blk_far (blk_set (w := w9.drew) A0.out 0 _) (p := ⟨w.heap.size + 1, 0, none⟩) (by show w.heap.size ≠ w.heap.size + 1; omega) _)
          have E1 := Lib.hid (show W9.heap[w.heap.size + 1]? = some (.cells #[.int .i64 8] 31 (0, 0)) by rw [hW9]; exact blk_set B1.out 0 _)
          have EL := Lib.hid (show W9.heap[l2]? = some (.loop rb) from (hfar _ (by omega) (by omega)).trans AL.out)
          have ED := Lib.hid (show W9.heap[V6.heap.size]? = some (.deferred (some [])) from (hfar _ (by have := HSZ.out; omega) (by have := HSZ.out; omega)).trans AD.out)
          have EB := Lib.hid (show Below w.heap.size w W9 by rw [hW9]; exact ((below_drew1 ABB.out).setCell (p := ⟨w.heap.size, 0, none⟩) (Nat.le_refl _) _).setCell (p := ⟨w.heap.size + 1, 0, none⟩) (Nat.le_succ _) _)
          clear hW9 hfar c0 f0 hs8 c1 f1 h26
          gi_wp2
          refine ⟨_, _, run_endRound (some .ret) EL.out, .inr ⟨rfl, ?_⟩⟩
          have hgo : (goB b rows none ms0).1 = 8 := goB_err b rows j (by rw [HR.out, rowsOf_length _ _ HLL.out]; exact hjn) 8 HJ.out.1 (by rw [HR.out, rowsOf_getD _ _ HLL.out j hjn, ← HKX.out, ← HCX.out, ← HR.out]; exact HRE.out) (by decide)
          have h26 := HL2.out
          have hz8 := HSZ.out
          have ho : ∀ k, k ≠ l2 → (W9.putObj l2 (.loop { rb with state := if (some Code.ret).isNone then .ready else .done, pending := some .ret })).heap[k]? = W9.heap[k]? := fun k hk => World.putObj_heap_other hk
          rw [hgo]
          exact ⟨(by decide), Below.grown EB.out (grownBy_put W9 l2 _) (by have := EB.out.size; omega) (fun b e => by injection e with e; omega), (ho _ (by omega)).trans E0.out, (ho _ (by omega)).trans E1.out, ⟨_, World.putObj_heap_same (blk_lt EL.out), rfl, rfl⟩, (ho _ (by omega)).trans ED.out⟩
        · have HRE := Lib.hid (show rowE (lastL none (rows.take j)) ⟨kx, cx.f0, cx.f1⟩ = 0 by
            rw [hll]; unfold rowE; rw [← HMN.out, if_pos rfl]; exact if_neg hle)
          have hle2 : ∀ W, Sem.run Try.prog (binOp BinOp.leq 9 (.string kx) (.string lst)) W = .ok (.bool false) W := fun W => by
            have h : leB kx lst = false := by simpa using hle
            rw [run_leq, h]
          clear hle hll hjne
          gi_wp2_with (first | (refine wpListIn_store_one (F := Fence.wide.inRound l2) rfl rfl 31 (.tmp 7) (.tmp 29) rfl (g := w.heap.size + 4) (v := .int .i64 0) rfl rfl G47.out (by kernel_rfl) rfl rfl ?_; intro w8 hz8 hg8; have HZ8 := Lib.hid hz8; have HB8 := Lib.hid hg8; have c8 := (blk_cell hz8 0).trans rfl; have G58 := Lib.hid (grown_blk hg8 G57.out (by omega)); have G68 := Lib.hid (grown_blk hg8 G67.out (by omega)); have c5 := (blk_cell G58.out 0).trans rfl; have c6 := (blk_cell G68.out 0).trans rfl; clear hz8 hg8) | (refine wpListIn_store_one (F := Fence.wide.inRound l2) rfl rfl 4 (.tmp 8) (.const (.bool true)) rfl (g := w.heap.size + 5) (v := .bool true) rfl rfl G58.out (by kernel_rfl) rfl rfl ?_; intro w9 hz9 hg9; have HZ9 := Lib.hid hz9; have HB9 := Lib.hid hg9; clear hz9 hg9) | (refine wpListIn_store_one (F := Fence.wide.inRound l2) rfl rfl 9 (.tmp 9) (.tmp 43) rfl (g := w.heap.size + 6) (v := .string kx) rfl rfl (grown_blk HB9.out G68.out (by omega)) (by kernel_rfl) rfl rfl ?_; intro w10 hz10 hg10; have HZ10 := Lib.hid hz10; have HB10 := Lib.hid hg10; clear hz10 hg10; have HK10 := Lib.hid (fun k (hk : k < w6.heap.size) (h4 : k ≠ w.heap.size + 4) (h5 : k ≠ w.heap.size + 5) (h6 : k ≠ w.heap.size + 6) => by have s7 := HB7.out.size; have s8 := HB8.out.size; have s9 := HB9.out.size; exact (HB10.out.block k (by omega) (fun e => h6 (by injection e))).trans ((HB9.out.block k (by omega) (fun e => h5 (by injection e))).trans ((HB8.out.block k (by omega) (fun e => h4 (by injection e))).trans (HB7.out.block k hk)))); have c3 := (blk_cell ((HK10.out (w.heap.size + 3) (by have := HS6.out; have := HJ.out.2.2.2.2.2.2.2.2.2.2.2; omega) (by omega) (by omega) (by omega)).trans G3.out) 0).trans rfl) | ((with_reducible refine gate_dstIn (N := 46) rfl ?_); refine wpListIn_load_row rfl 38 (.tmp 11) rfl W3.heap.size rfl [.string cx.f0, .bool cx.f1] 38 _ ((HK10.out W3.heap.size HS6.out (by have := HJ.out.2.2.2.2.2.2.2.2.2.2.2; omega) (by have := HJ.out.2.2.2.2.2.2.2.2.2.2.2; omega) (by have := HJ.out.2.2.2.2.2.2.2.2.2.2.2; omega)).trans HN6.out) Try.underlying38 rfl (by kernel_rfl) ?_))
          have hK10 := HK10.out
          have hJ := HJ.out
          obtain ⟨hg0, hb3, hS, hE, h6, h7, h8, h9, hmk, hlp, hdf, hsz⟩ := hJ
          have h26 := HL2.out
          have hz8 := HSZ.out
          have hs6 := HS6.out
          have hs7 := HB7.out.size
          have hs8 := HB8.out.size
          have hs9 := HB9.out.size
          have hs10 := HB10.out.size
          obtain ⟨m, hm⟩ : ∃ m, m = (goB b (rows.take j) none ms0).2 := ⟨_, rfl⟩
          rw [← hm] at hmk
          have hbb : Below w.heap.size w w10 := Below.grown (Below.grown (Below.grown (HBW6.out.trans (HB7.out.mono HBW6.out.size)) HB8.out (by have := HBW6.out.size; omega) (fun b e => by injection e with e; omega)) HB9.out (by have := HBW6.out.size; omega) (fun b e => by injection e with e; omega)) HB10.out (by have := HBW6.out.size; omega) (fun b e => by injection e with e; omega)
          have hk3 : ∀ k, k < W3.heap.size → k ≠ l2 → k ≠ w.heap.size + 4 → k ≠ w.heap.size + 5 → k ≠ w.heap.size + 6 → w10.heap[k]? = W3.heap[k]? := fun k a1 a2 a3 a4 a5 => (hK10 k (by omega) a3 a4 a5).trans (HK6.out k a1 a2)
          have hm10 : Mk w10 (w.heap.size + 2) (w.heap.size + 7) (fun k => w.heap.size + 9 ≤ k) b m := hmk.moved (S := fun k => k = l2 ∨ k = w.heap.size + 4 ∨ k = w.heap.size + 5 ∨ k = w.heap.size + 6) ⟨hbb.os.trans hb3.os.symm, hbb.tape.trans hb3.tape.symm, hbb.output.trans hb3.output.symm, by omega, fun k hk hn => hk3 k hk (fun e => hn (.inl e)) (fun e => hn (.inr (.inl e))) (fun e => hn (.inr (.inr (.inl e)))) (fun e => hn (.inr (.inr (.inr e))))⟩ (by rintro k hk (h | h) <;> omega)
          obtain ⟨bl, cur, hmb, hfl⟩ := goB_mb (b := b) hb1 (rows.take j) none ms0 [] [] MB.zero hg0
          rw [← hm] at hmb
          have hbd2 := hmb.bounds
          have hbn : bl.length ≤ j := by
            have h1 := BlkOk.len hmb.ok
            have h2 : bl.flatten.length + cur.length = (rows.take j).length := by rw [← List.length_append, hfl]; simp
            have h3 : (rows.take j).length ≤ j := by rw [List.length_take]; omega
            omega
          have hmay : mayN ⟨kx, cx.f0, cx.f1⟩ = 0 := HMN.out.symm
          have C78 := Lib.hid (add_calls (w.heap.size + 2) (w.heap.size + 7) (fun k => w.heap.size + 9 ≤ k) b m ⟨kx, cx.f0, cx.f1⟩ w10 hm10 (by have := hbb.size; omega) (fun k hk => by omega) (by have := hmb.fs; omega) (by have := hmb.sz; omega) (by omega) (by omega) (by rw [hmb.many]; omega) (mayN_ok hmay).1 (mayN_ok hmay).2)
          have HHB := Lib.hid hbb
          have HK3 := Lib.hid hk3
          have HM := Lib.hid hm
          clear hK10 hg0 hb3 hS hE h6 h7 h8 h9 hmk hlp hdf hsz hz8 hs7 hs8 hs9 hs10 hm hbb hk3 hm10 hmb hfl hbd2 hbn hmay
          refine ⟨trivial, (CallsIn.inRound l2 (callsIn_wide.2 C78.out)).mono ?_⟩
          rintro e w11 ⟨rfl, hm11, ho11⟩
          have HM11 := Lib.hid hm11
          have HO11 := Lib.hid ho11
          clear hm11 ho11 h26 hs6 c3
          gi_wp2
          have h26 := HL2.out
          have hs6 := HS6.out
          have hj := HJ.out
          have hss : W3.heap.size ≤ w10.heap.size := by have := HB7.out.size; have := HB8.out.size; have := HB9.out.size; have := HB10.out.size; omega
          have h11 : ∀ k, k < w.heap.size + 9 → k ≠ w.heap.size + 2 → k < w10.heap.size → w11.heap[k]? = w10.heap[k]? := fun k h1 h2 h3 => HO11.out.block k h3 (fun h => by rcases h with h | h; exact h2 h; have h : w.heap.size + 9 ≤ k := h; omega)
          have hl10 : w10.heap[l2]? = some (.loop rb) := (HK10.out l2 (by have := blk_lt HL6.out; omega) (by omega) (by omega) (by omega)).trans HL6.out
          have hl11 : w11.heap[l2]? = some (.loop rb) := (h11 l2 (by omega) (by omega) (blk_lt hl10)).trans hl10
          refine round_goes hl11 (.inl ⟨rfl, ?_, ?_⟩)
          all_goals
            have hrr : ({ rb with state := .ready, pending := none } : Loop) = r := by rw [HRB.out]; exact rec_back HRR.out HPN.out
            rw [hrr]
            have ho : ∀ k, k ≠ l2 → (w11.putObj l2 (.loop r)).heap[k]? = w11.heap[k]? := fun k hk => World.putObj_heap_other hk
            have hb11 : Below w.heap.size w w11 := HHB.out.trans ⟨HO11.out.os, HO11.out.tape, HO11.out.output, HO11.out.size, fun k hk => HO11.out.block k (by have := HHB.out.size; omega) (fun h => by rcases h with h | h; omega; have h : w.heap.size + 9 ≤ k := h; omega)⟩
            have hb12 : Below w.heap.size w (w11.putObj l2 (.loop r)) := Below.grown hb11 (grownBy_put w11 l2 _) hb11.size (fun b e => by injection e with e; omega)
          · obtain ⟨hg0, hb3, hS, hE, h6, h7, h8, h9, hmk, hlp, hdf, hsz⟩ := hj
            have hgo := goB_good b rows j (by rw [HR.out, rowsOf_length _ _ HLL.out]; exact hjn) hg0 (by rw [HR.out, rowsOf_getD _ _ HLL.out j hjn, ← HKX.out, ← HCX.out, ← HR.out]; exact HRE.out)
            have hx : rows.getD j rz = ⟨kx, cx.f0, cx.f1⟩ := by rw [HR.out, rowsOf_getD _ _ HLL.out j hjn, ← HKX.out, ← HCX.out]
            rw [hx, ← HM.out] at hgo
            have a10 : ∀ k, k < w.heap.size + 9 → k ≠ w.heap.size + 2 → k ≠ l2 → k ≠ w.heap.size + 4 → k ≠ w.heap.size + 5 → k ≠ w.heap.size + 6 → (w11.putObj l2 (.loop r)).heap[k]? = W3.heap[k]? := fun k a1 a2 a3 a4 a5 a6 => (ho k a3).trans ((h11 k a1 a2 (by omega)).trans (HK3.out k (by omega) a3 a4 a5 a6))
            have z4 := grown_blk HB10.out (grown_blk HB9.out HZ8.out (by omega)) (by omega)
            have z5 := grown_blk HB10.out HZ9.out (by omega)
            rw [hgo.1, hgo.2]
            refine ⟨rfl, hb12, (a10 _ (by omega) (by omega) (by omega) (by omega) (by omega) (by omega)).trans hS, (a10 _ (by omega) (by omega) (by omega) (by omega) (by omega) (by omega)).trans hE, (a10 _ (by omega) (by omega) (by omega) (by omega) (by omega) (by omega)).trans h6, (ho _ (by omega)).trans ((h11 _ (by omega) (by omega) (blk_lt z4)).trans z4), (ho _ (by omega)).trans ((h11 _ (by omega) (by omega) (blk_lt z5)).trans z5), (ho _ (by omega)).trans ((h11 _ (by omega) (by omega) (blk_lt HZ10.out)).trans HZ10.out), ?_, World.putObj_heap_same (blk_lt hl11), ?_, ?_⟩
            · exact HM11.out.moved (S := fun k => k = l2) ⟨rfl, rfl, rfl, by simp, fun k hk hn => ho k hn⟩ (by rintro k hk (h | h) <;> omega)
            · have := HSZ.out
              exact (a10 _ (by omega) (by omega) (by omega) (by omega) (by omega) (by omega)).trans hdf
            · have := HO11.out.size
              simp only [World.putObj, Array.size_setIfInBounds]
              omega
          · refine ⟨by have := HO11.out.size; simp only [World.putObj, Array.size_setIfInBounds]; omega, fun k hk hn => ?_⟩
            have hn : ¬ w.heap.size ≤ k := hn
            exact (hb12.block k (by omega)).trans (hj.2.1.block k (by omega)).symm
  case h0 =>
    refine ⟨rfl, HBW.out, blk_below' HG0.out HB6.out, blk_below' HG1.out HB6.out, blk_below' HG3.out HB6.out, blk_below' HG4.out HB6.out, blk_below' HG5.out HB6.out, blk_below' HG6.out HB6.out, ?_, HL1.out, HD1.out, by have := HS1.out; omega⟩
    exact (HMK.out.mono (ok' := fun k => w.heap.size + 9 ≤ k) (fun k hk hl => by have h : w.heap.size + 7 ≤ k := hk; have := HSZ.out; omega) (fun k hk => by have h : w.heap.size + 9 ≤ k := hk; omega)).below HB6.out
  case post =>
    rintro e W4 ⟨⟨ve, rfl⟩, h4⟩
    have hrl : rows.length = ks.length := by rw [HR.out, rowsOf_length _ _ HLL.out]
    rcases h4 with ⟨hg0, hb4, hS, hE, h6, h7, h8, h9, hmk, hlp, hdf, hsz⟩ | ⟨hg0, hb4, hS, hE, ⟨r2, hlp, hst, hpd⟩, hdf⟩
    · refine ⟨⟨_, rfl⟩, r, hlp, by rw [HRR.out]; decide, ?_⟩
      intro W5 hW5
      rw [HPN.out]
      dsimp only
      have h26 := HL2.out
      have hz8 := HSZ.out
      have htk : rows.take ks.length = rows := by rw [← hrl]; exact List.take_length
      rw [htk] at hg0 hmk
      obtain ⟨m, hm⟩ : ∃ m, m = (goB b rows none ms0).2 := ⟨_, rfl⟩
      rw [← hm] at hmk
      have hbX : Below w.heap.size w W5 := Below.grown hb4 (hW5 ▸ grownBy_put W4 l2 _) hb4.size (fun b e => by injection e with e; omega)
      have ho : ∀ k, k ≠ l2 → W5.heap[k]? = W4.heap[k]? := fun k hk => by rw [hW5]; exact World.putObj_heap_other hk
      have hS5 := (ho _ (by omega)).trans hS
      have hE5 := (ho _ (by omega)).trans hE
      have h65 := (ho _ (by omega)).trans h6
      have h75 := (ho _ (by omega)).trans h7
      have hK := (ho _ (by omega)).trans hdf
      have hmk5 : Mk W5 (w.heap.size + 2) (w.heap.size + 7) (fun k => w.heap.size + 9 ≤ k) b m := hmk.moved (S := fun k => k = l2) (by rw [hW5]; exact ⟨rfl, rfl, rfl, by simp, fun k hk hn => World.putObj_heap_other hn⟩) (by rintro k hk (h | h) <;> omega)
      obtain ⟨bl, cur, hmb, hfl⟩ := goB_mb (b := b) hb1 rows none ms0 [] [] MB.zero hg0
      rw [← hm] at hmb
      have hcb := hmb.close.bounds
      have hbd2 := hmb.bounds
      have hbn : bl.length + 1 ≤ 1048577 ∧ (if cur = [] then bl else bl ++ [cur]).length ≤ 1048577 := by
        have h1 := BlkOk.len hmb.ok
        have h2 : bl.flatten.length + cur.length = rows.length := by rw [← List.length_append, hfl]; simp
        refine ⟨by omega, ?_⟩
        by_cases hc : cur = []
        · rw [if_pos hc]; omega
        · rw [if_neg hc, List.length_append, List.length_singleton]; omega
      have hs5 : w.heap.size + 9 ≤ W5.heap.size := by rw [hW5]; simpa using hsz
      have C79 := Lib.hid (close_calls (w.heap.size + 2) (w.heap.size + 7) (fun k => w.heap.size + 9 ≤ k) b m W5 hmk5 (by omega) (fun k hk => by omega) (by have := hmb.fs; omega) (by have := hmb.sz; omega) (by omega) (by omega) (by rw [hmb.many]; omega))
      have HBF := Lib.hid (show buildF b rows = endB m by unfold buildF; rw [if_neg (by omega), if_neg (by rw [hg0]; exact fun h => h rfl), hm])
      have HCO := Lib.hid (show (closeS m).out.length ≤ 1099511627776 ∧ (closeS m).idx.length ≤ 1099511627776 ∧ (closeS m).many < 1099511627776 by rw [hmb.close.many]; omega)
      have HX := Lib.hid hbX
      have HS5 := Lib.hid hS5
      have HE5 := Lib.hid hE5
      have H65 := Lib.hid h65
      have H75 := Lib.hid h75
      have HK := Lib.hid hK
      have HZ5 := Lib.hid hs5
      have c3 := (blk_cell h65 0).trans rfl
      clear h26 hz8 htk hg0 hb4 hS hE h6 h7 h8 h9 hmk hlp hdf hsz hm hbX ho hS5 hE5 h65 h75 hK hmk5 hmb hcb hbd2 hbn hs5 hW5 hfl
      go_wp2_with (go_at_call 79; refine C79.out.mono ?_; rintro e w6 ⟨rfl, hm6, ho6⟩; have HM6 := Lib.hid hm6; have HO6 := Lib.hid ho6; clear hm6 ho6 c3)
      obtain ⟨c, hc⟩ : ∃ c, c = closeS m := ⟨_, rfl⟩
      rw [← hc] at HM6 HCO
      obtain ⟨en, hen⟩ : ∃ en, en = encB c.many := ⟨_, rfl⟩
      obtain ⟨ix, hix⟩ : ∃ ix : ByteArray, ix = ⟨c.idx.toArray⟩ := ⟨_, rfl⟩
      obtain ⟨F, hF⟩ : ∃ F, F = (putR 3 (en ++ ix)).1 := ⟨_, rfl⟩
      obtain ⟨E, hE⟩ : ∃ E, E = (putR 3 (en ++ ix)).2 := ⟨_, rfl⟩
      have hi1 : idxF c = (F, E) := by rw [hF, hE, hen, hix]; rfl
      have HBF2 := Lib.hid (show endB m = if E ≠ 0 ∨ 1048576 < c.out.length + F.size + 4 then (⟨#[]⟩, 13) else (⟨c.out.toArray⟩ ++ F ++ fourB F.size, 0) by unfold endB; dsimp only; rw [← hc, hi1])
      have hsz1 : en.size ≤ 10 := by rw [hen]; exact (encB_le c.many (by have := HCO.out; omega)).1
      have hsz2 : ix.size ≤ 1099511627776 := by rw [hix]; have := HCO.out.2.1; exact this
      have hfz : F.size ≤ 65600 := by have := idxF_size c; rw [hi1] at this; exact this
      have HFZ := Lib.hid hfz
      have hsum : ¬ (9223372036854775807 < en.size + ix.size) := by omega
      have C26 := Lib.hid (fun W => (show Calls Try.prog 26 #[.int .u64 c.many] W fun e w' => e = .returned (.string en) ∧ Below W.heap.size W w' by rw [hen]; exact WUint_calls c.many W (by have := HCO.out; omega)))
      have C80 := Lib.hid (fun W (h : Mk W (w.heap.size + 2) (w.heap.size + 7) (fun k => w.heap.size + 9 ≤ k) b c) => (show Calls Try.prog 80 #[.pointer (some ⟨w.heap.size + 2, 6, none⟩)] W fun e w' => e = .returned (.string ix) ∧ MkO w' (w.heap.size + 2) (w.heap.size + 7) (fun k => w.heap.size + 9 ≤ k) c ∧ Only2 (fun k => w.heap.size + 9 ≤ k) W w' by rw [hix]; exact h.idxO))
      have C61 := Lib.hid (fun W => (show Calls Try.prog 61 #[.int .u8 3, .string (en ++ ix)] W fun e w' => e = .returned (.tuple #[.string F, .int .i64 E]) ∧ Below W.heap.size W w' by rw [hF, hE]; exact Put_calls 3 (en ++ ix) W (by unfold maxLen; rw [ByteArray.size_append]; omega)))
      have hz8 := HSZ.out
      have h5n : ∀ k, k < w.heap.size + 9 → k ≠ w.heap.size + 2 → k < W5.heap.size → w6.heap[k]? = W5.heap[k]? := fun k h1 h2 h3 => HO6.out.block k h3 (fun h => by rcases h with h | h; exact h2 h; have h : w.heap.size + 9 ≤ k := h; omega)
      have hz5 := HZ5.out
      have a0 := (h5n _ (by omega) (by omega) (by omega)).trans HS5.out
      have a1 := (h5n _ (by omega) (by omega) (by omega)).trans HE5.out
      have a3 := (h5n _ (by omega) (by omega) (by omega)).trans H65.out
      have a4 := (h5n _ (by omega) (by omega) (by omega)).trans H75.out
      have aK := (h5n _ (by omega) (by omega) (by omega)).trans HK.out
      have ab : Below w.heap.size w w6 := HX.out.trans ⟨HO6.out.os, HO6.out.tape, HO6.out.output, HO6.out.size, fun k hk => h5n k (by omega) (by omega) (by omega)⟩
      have hs := HO6.out.size
      have hbd : Below w6.heap.size w6 w6.drew := below_drew1 (Below.refl _ _)
      have A0 := Lib.hid (show w6.drew.heap[w.heap.size]? = _ from a0)
      have A1 := Lib.hid (show w6.drew.heap[w.heap.size + 1]? = _ from a1)
      have A3 := Lib.hid (show w6.drew.heap[w.heap.size + 3]? = _ from a3)
      have A4 := Lib.hid (show w6.drew.heap[w.heap.size + 4]? = _ from a4)
      have AK := Lib.hid (show w6.drew.heap[V6.heap.size]? = _ from aK)
      have AB := Lib.hid (ab.trans (hbd.mono ab.size))
      have AS := Lib.hid (show w.heap.size + 9 ≤ w6.drew.heap.size by show _ ≤ w6.heap.size; omega)
      have AM := Lib.hid (HM6.out.below hbd)
      have hS18 : w6.drew.cell? ⟨w.heap.size + 3, 0, none⟩ = some (.pointer (some ⟨w.heap.size + 2, 0, none⟩)) ∧ w6.drew.cell? ⟨w.heap.size + 2, 5, none⟩ = some (.int .u64 c.many) := ⟨(blk_cell A3.out 0).trans rfl, AM.out.get.2.2.2.1⟩
      clear a0 a1 a3 a4 aK ab hs hbd h5n hz5 hz8 hc hen hix hF hE hi1 hsz1 hsz2 hfz HS5 HE5 H65 H75 HK HX HZ5 HO6 HM6
      refine start_ (n := 16) (S := fun w' => w'.cell? ⟨w.heap.size + 3, 0, none⟩ = some (.pointer (some ⟨w.heap.size + 2, 0, none⟩)) ∧ w'.cell? ⟨w.heap.size + 2, 5, none⟩ = some (.int .u64 c.many)) (ds := [15]) #[false, false, false, false, false, false, false, false, false, false, false, false, false, false, false, false] (by kernel_rfl) rfl rfl (hS18) (fun hHeld => ?_)
      refine take_ (i := 0) (N := some 51) (v := ?_) (a' := ?_) #[true, false, false, false, false, false, false, false, false, false, false, false, false, false, false, false] rfl rfl (by kernel_rfl) (fun _ _ _ h => h) (Or.inl ⟨by rfl, ?_⟩) hHeld ?_ ?_
      rotate_left
      · rintro w' ⟨s0, s1⟩
        go_simp
        with_reducible rfl
      rotate_left
      · simp only [Act.put, List.setIfInBounds_toArray, List.set_cons_zero, List.set_cons_succ, i64_w, i32_w]
        rfl
      refine pure_ (i := 1) (N := some 52) (v := ?_) (a' := ?_) #[true, true, false, false, false, false, false, false, false, false, false, false, false, false, false, false] rfl rfl (by kernel_rfl) (fun _ _ _ h => h) (Or.inl ⟨by rfl, ?_⟩) ?_ ?_
      rotate_left
      · intro w'
        go_simp
        with_reducible rfl
      rotate_left
      · simp only [Act.put, List.setIfInBounds_toArray, List.set_cons_zero, List.set_cons_succ, i64_w, i32_w]
        rfl
      refine pure_ (i := 2) (N := some 53) (v := ?_) (a' := ?_) #[true, true, true, false, false, false, false, false, false, false, false, false, false, false, false, false] rfl rfl (by kernel_rfl) (fun _ _ _ h => h) (Or.inl ⟨by rfl, ?_⟩) ?_ ?_
      rotate_left
      · intro w'
        go_simp
        with_reducible rfl
      rotate_left
      · simp only [Act.put, List.setIfInBounds_toArray, List.set_cons_zero, List.set_cons_succ, i64_w, i32_w]
        rfl
      refine take_ (i := 3) (N := some 54) (v := ?_) (a' := ?_) #[true, true, true, true, false, false, false, false, false, false, false, false, false, false, false, false] rfl rfl (by kernel_rfl) (fun _ _ _ h => h) (Or.inl ⟨by rfl, ?_⟩) hHeld ?_ ?_
      rotate_left
      · rintro w' ⟨s0, s1⟩
        go_simp
        with_reducible rfl
      rotate_left
      · simp only [Act.put, List.setIfInBounds_toArray, List.set_cons_zero, List.set_cons_succ, i64_w, i32_w]
        rfl
      refine take_ (i := 5) (N := some 56) (v := ?_) (a' := ?_) #[true, true, true, true, false, true, false, false, false, false, false, false, false, false, false, false] rfl rfl (by kernel_rfl) (fun _ _ _ h => h) (Or.inl ⟨by rfl, ?_⟩) hHeld ?_ ?_
      rotate_left
      · rintro w' ⟨s0, s1⟩
        go_simp
        with_reducible rfl
      rotate_left
      · simp only [Act.put, List.setIfInBounds_toArray, List.set_cons_zero, List.set_cons_succ, i64_w, i32_w]
        rfl
      refine pure_ (i := 6) (N := some 57) (v := ?_) (a' := ?_) #[true, true, true, true, false, true, true, false, false, false, false, false, false, false, false, false] rfl rfl (by kernel_rfl) (fun _ _ _ h => h) (Or.inl ⟨by rfl, ?_⟩) ?_ ?_
      rotate_left
      · intro w'
        go_simp
        with_reducible rfl
      rotate_left
      · simp only [Act.put, List.setIfInBounds_toArray, List.set_cons_zero, List.set_cons_succ, i64_w, i32_w]
        rfl
      refine pure_ (i := 7) (N := some 58) (v := ?_) (a' := ?_) #[true, true, true, true, false, true, true, true, false, false, false, false, false, false, false, false] rfl rfl (by kernel_rfl) (fun _ _ _ h => h) (Or.inl ⟨by rfl, ?_⟩) ?_ ?_
      rotate_left
      · intro w'
        go_simp
        with_reducible rfl
      rotate_left
      · simp only [Act.put, List.setIfInBounds_toArray, List.set_cons_zero, List.set_cons_succ, i64_w, i32_w]
        rfl
      refine one_ (i := 4) (N := some 55) #[true, true, true, true, true, true, true, true, false, false, false, false, false, false, false, false] rfl rfl (by kernel_rfl) (by decide) (fun K hK => ?_)
      refine goes_ Try.func26 (by kernel_rfl) rfl #[.int .u64 c.many] (by rfl) rfl rfl (by simp only [List.map_toArray, List.map_cons, List.map_nil]; rfl) ?_
      refine (C26.out _).mono ?_
      rintro e w7 ⟨rfl, hb7⟩
      refine ⟨_, rfl, ?_⟩
      have HB7 := Lib.hid hb7
      clear hb7
      refine hK.out _ _ (⟨pw_cell_below HB7.out hHeld.1, pw_cell_below HB7.out hHeld.2⟩) (fun hHeld => ?_)
      clear hK K
      refine norm_ (a' := ?_) ?_ ?_
      rotate_left
      · show Act.put _ (some 55) _ = _
        simp only [Act.put, List.setIfInBounds_toArray, List.set_cons_zero, List.set_cons_succ, i64_w, i32_w]
        rfl
      refine one_ (i := 8) (N := some 59) #[true, true, true, true, true, true, true, true, true, false, false, false, false, false, false, false] rfl rfl (by kernel_rfl) (by decide) (fun K hK => ?_)
      refine goes_ Try.func80 (by kernel_rfl) rfl #[.pointer (some ⟨w.heap.size + 2, 6, none⟩)] (by rfl) rfl rfl (by simp only [List.map_toArray, List.map_cons, List.map_nil]; rfl) ?_
      refine (C80.out _ (AM.out.below HB7.out)).mono ?_
      rintro e w8 ⟨rfl, hm8, ho8⟩
      refine ⟨_, rfl, ?_⟩
      have HM8 := Lib.hid hm8
      have HO8 := Lib.hid ho8
      clear hm8 ho8
      have h78 : ∀ k, k < w.heap.size + 9 → w8.heap[k]? = w7.heap[k]? := fun k h1 => HO8.out.block k (by have := HB7.out.size; have := AS.out; omega) (fun h => by have h : w.heap.size + 9 ≤ k := h; omega)
      have H78 := Lib.hid h78
      have h8h : w8.cell? ⟨w.heap.size + 3, 0, none⟩ = some (.pointer (some ⟨w.heap.size + 2, 0, none⟩)) ∧ w8.cell? ⟨w.heap.size + 2, 5, none⟩ = some (.int .u64 c.many) := ⟨(World.cell?_of_block (w := w7) (h78 _ (by show w.heap.size + 3 < _; omega))).trans hHeld.1, (World.cell?_of_block (w := w7) (h78 _ (by show w.heap.size + 2 < _; omega))).trans hHeld.2⟩
      clear h78
      refine hK.out _ _ (h8h) (fun hHeld => ?_)
      clear hK K
      refine norm_ (a' := ?_) ?_ ?_
      rotate_left
      · show Act.put _ (some 59) _ = _
        simp only [Act.put, List.setIfInBounds_toArray, List.set_cons_zero, List.set_cons_succ, i64_w, i32_w]
        rfl
      refine pure_ (i := 9) (N := some 60) (v := ?_) (a' := ?_) #[true, true, true, true, true, true, true, true, true, true, false, false, false, false, false, false] rfl rfl (by kernel_rfl) (fun _ _ _ h => h) (Or.inl ⟨by rfl, ?_⟩) ?_ ?_
      rotate_left
      · intro w'
        go_simp
        with_reducible rfl
      rotate_left
      · simp only [Act.put, List.setIfInBounds_toArray, List.set_cons_zero, List.set_cons_succ, i64_w, i32_w]
        rfl
      refine one_ (i := 10) (N := some 61) #[true, true, true, true, true, true, true, true, true, true, true, false, false, false, false, false] rfl rfl (by kernel_rfl) (by decide) (fun K hK => ?_)
      refine goes_ Try.func61 (by kernel_rfl) rfl #[.int .u8 3, .string (en ++ ix)] (by rfl) rfl rfl (by simp only [List.map_toArray, List.map_cons, List.map_nil]; rfl) ?_
      refine (C61.out _).mono ?_
      rintro e w9 ⟨rfl, hb9⟩
      refine ⟨_, rfl, ?_⟩
      have HB9 := Lib.hid hb9
      clear hb9
      refine hK.out _ _ (⟨pw_cell_below HB9.out hHeld.1, pw_cell_below HB9.out hHeld.2⟩) (fun hHeld => ?_)
      clear hK K
      refine norm_ (a' := ?_) ?_ ?_
      rotate_left
      · show Act.put _ (some 61) _ = _
        simp only [Act.put, List.setIfInBounds_toArray, List.set_cons_zero, List.set_cons_succ, i64_w, i32_w]
        rfl
      refine pure_ (i := 11) (N := some 50) (v := ?_) (a' := ?_) #[true, true, true, true, true, true, true, true, true, true, true, true, false, false, false, false] rfl rfl (by kernel_rfl) (fun _ _ _ h => h) (Or.inl ⟨by rfl, ?_⟩) ?_ ?_
      rotate_left
      · intro w'
        go_simp
        with_reducible rfl
      rotate_left
      · simp only [Act.put, List.setIfInBounds_toArray, List.set_cons_zero, List.set_cons_succ, i64_w, i32_w]
        rfl
      refine pure_ (i := 12) (N := some 62) (v := ?_) (a' := ?_) #[true, true, true, true, true, true, true, true, true, true, true, true, true, false, false, false] rfl rfl (by kernel_rfl) (fun _ _ _ h => h) (Or.inl ⟨by rfl, ?_⟩) ?_ ?_
      rotate_left
      · intro w'
        go_simp
        with_reducible rfl
      rotate_left
      · simp only [Act.put, List.setIfInBounds_toArray, List.set_cons_zero, List.set_cons_succ, i64_w, i32_w]
        rfl
      refine pure_ (i := 13) (N := some 63) (v := ?_) (a' := ?_) #[true, true, true, true, true, true, true, true, true, true, true, true, true, true, false, false] rfl rfl (by kernel_rfl) (fun _ _ _ h => h) (Or.inl ⟨by rfl, ?_⟩) ?_ ?_
      rotate_left
      · intro w'
        go_simp
        with_reducible rfl
      rotate_left
      · simp only [Act.put, List.setIfInBounds_toArray, List.set_cons_zero, List.set_cons_succ, i64_w, i32_w]
        rfl
      refine pure_ (i := 14) (N := some 12) (v := ?_) (a' := ?_) #[true, true, true, true, true, true, true, true, true, true, true, true, true, true, true, false] rfl rfl (by kernel_rfl) (fun _ _ _ h => h) (Or.inl ⟨by rfl, ?_⟩) ?_ ?_
      rotate_left
      · intro w'
        go_simp
        with_reducible rfl
      rotate_left
      · simp only [Act.put, List.setIfInBounds_toArray, List.set_cons_zero, List.set_cons_succ, i64_w, i32_w]
        rfl
      refine last_ (i := 15) (N := none) #[true, true, true, true, true, true, true, true, true, true, true, true, true, true, true, true] rfl rfl (by kernel_rfl) (by decide) (fun K hK => ?_)
      have hz8 := HSZ.out
      have h99 : ∀ k, k < w.heap.size + 9 → w9.heap[k]? = w6.drew.heap[k]? := fun k hk => (HB9.out.block k (by have := HO8.out.size; have := HB7.out.size; have := AS.out; omega)).trans ((H78.out k hk).trans (HB7.out.block k (by have := AS.out; omega)))
      have H99 := Lib.hid h99
      have q4 := (h99 _ (by omega)).trans A4.out
      have Q4 := Lib.hid q4
      have c4 := (blk_cell q4 0).trans rfl
      have f4 := blk_frozen q4 0
      clear q4 h99 hz8
      refine skip_ (w1 := w9.setCell ⟨w.heap.size + 4, 0, none⟩ (.int .i64 E)) (by rfl) rfl (by go_simp) ?_
      clear c4 f4
      refine hK.out _ _ ?_
      clear hK K
      refine done_ (by kernel_rfl) ?_
      clear hHeld
      obtain ⟨X, hX⟩ : ∃ X, X = w9.setCell ⟨w.heap.size + 4, 0, none⟩ (.int .i64 E) := ⟨_, rfl⟩
      rw [← hX]
      have h9f : ∀ k, k ≠ w.heap.size + 4 → X.heap[k]? = w9.heap[k]? := fun k hk => by rw [hX]; exact Below.heap_setCell _ _ _ _ hk
      have hz8 := HSZ.out
      have s9 := HB9.out.size
      have s8 := HO8.out.size
      have s7 := HB7.out.size
      have s6 := AS.out
      have hb9 : Below w.heap.size w w9 := ((AB.out.trans (HB7.out.mono AB.out.size)).trans ⟨HO8.out.os, HO8.out.tape, HO8.out.output, HO8.out.size, fun k hk => H78.out k (by omega)⟩).trans (HB9.out.mono (by omega))
      have X0 := Lib.hid ((h9f _ (by omega)).trans ((H99.out _ (by omega)).trans A0.out))
      have X1 := Lib.hid ((h9f _ (by omega)).trans ((H99.out _ (by omega)).trans A1.out))
      have X3 := Lib.hid ((h9f _ (by omega)).trans ((H99.out _ (by omega)).trans A3.out))
      have XK := Lib.hid ((h9f _ (by omega)).trans ((H99.out _ (by omega)).trans AK.out))
      have X4 := Lib.hid (show X.heap[w.heap.size + 4]? = some (.cells #[.int .i64 E] 31 (0, 0)) by rw [hX]; exact blk_set Q4.out 0 _)
      have XB := Lib.hid (show Below w.heap.size w X by rw [hX]; exact hb9.setCell (p := ⟨w.heap.size + 4, 0, none⟩) (by show w.heap.size ≤ w.heap.size + 4; omega) _)
      have XM := Lib.hid (show MkO X (w.heap.size + 2) (w.heap.size + 7) (fun k => w.heap.size + 9 ≤ k) c from (HM8.out.below HB9.out).set (q := w.heap.size + 4) (by rw [hX]; exact grownBy_setCell0 _ _ _) (by omega) (by omega))
      have XS := Lib.hid (show w.heap.size + 9 ≤ X.heap.size by rw [hX]; simp only [World.size_setCell]; omega)
      clear hX h9f hz8 s9 s8 s7 s6 hb9 hS18 h8h hHeld A0 A1 A3 A4 AK AB AS AM HB7 HM8 HO8 H78 HB9 H99 Q4
      have c3 := (blk_cell X3.out 0).trans rfl
      have c4 := (blk_cell X4.out 0).trans rfl
      by_cases hE : E = 0
      · subst hE
        have hq : (((0 : Nat) : Int) != 0) = false := rfl
        have h81 := Lib.hid XM.out.outLen
        have hcl : c.out.length ≤ 1099511627776 := HCO.out.1
        have hF2 := HFZ.out
        by_cases hbig : 1048576 < c.out.length + F.size + 4
        · have hb1 : decide ((1048576 : Int) < (c.out.length : Int) + (F.size : Int) + 4) = true := by simp; omega
          have HBIG := Lib.hid hbig
          clear hbig
          have c0 := (blk_cell X0.out 0).trans rfl
          have f0 := blk_frozen X0.out 0
          have c1 := (blk_cell X1.out 0).trans rfl
          have f1 := blk_frozen X1.out 0
          go_wp2_with (go_at_call 81; refine h81.out.mono ?_; rintro e w10 ⟨rfl, rfl⟩)
          have ZK := Lib.hid XK.out
          have ZB := Lib.hid XB.out
          obtain ⟨Y, hY⟩ : ∃ Y, Y = (X.setCell ⟨w.heap.size, 0, none⟩ (.string ⟨#[]⟩)).setCell ⟨w.heap.size + 1, 0, none⟩ (.int .i64 13) := ⟨_, rfl⟩
          rw [← hY]
          have Y0 := Lib.hid (show Y.heap[w.heap.size]? = some (.cells #[.string ⟨#[]⟩] 9 (0, 0)) by rw [hY]; exact blk_far (blk_set X0.out 0 _) (p := ⟨w.heap.size + 1, 0, none⟩) (by show w.heap.size ≠ w.heap.size + 1; omega) _)
          have Y1 := Lib.hid (show Y.heap[w.heap.size + 1]? = some (.cells #[.int .i64 13] 31 (0, 0)) by rw [hY]; exact blk_set (blk_far X1.out (p := ⟨w.heap.size, 0, none⟩) (by show w.heap.size + 1 ≠ w.heap.size; omega) _) 0 _)
          have YK := Lib.hid (show Y.heap[V6.heap.size]? = some (.deferred (some [])) by have hz8 := HSZ.out; rw [hY]; exact (Below.heap_setCell _ _ _ _ (by show V6.heap.size ≠ w.heap.size + 1; omega)).trans ((Below.heap_setCell _ _ _ _ (by show V6.heap.size ≠ w.heap.size; omega)).trans ZK.out))
          have YB := Lib.hid (show Below w.heap.size w Y by rw [hY]; exact (ZB.out.setCell (p := ⟨w.heap.size, 0, none⟩) (Nat.le_refl _) _).setCell (p := ⟨w.heap.size + 1, 0, none⟩) (Nat.le_succ _) _)
          clear hY
          show bodyPostM _ _ _ _ _ Exit.ret _ _
          have hz8 := HSZ.out
          have hz0 : (Y.putObj V6.heap.size (.deferred none)).cell? ⟨w.heap.size, 0, none⟩ = some (.string ⟨#[]⟩) := (blk_cell ((World.putObj_heap_other (by omega)).trans Y0.out) 0).trans rfl
          have hz1 : (Y.putObj V6.heap.size (.deferred none)).cell? ⟨w.heap.size + 1, 0, none⟩ = some (.int .i64 13) := (blk_cell ((World.putObj_heap_other (by omega)).trans Y1.out) 0).trans rfl
          refine ⟨by simp, .inl ⟨_, _, rfl, run_takeDeferred YK.out, ?_⟩⟩
          refine ⟨.tuple #[.string ⟨#[]⟩, .int .i64 13], ?_, ?_, ?_⟩
          · simp [results, Try.f37, go_sem, hz0, hz1]
          · rw [HBF.out, HBF2.out, if_pos (.inr HBIG.out)]
            rfl
          · exact Below.grown YB.out (grownBy_put Y _ _) YB.out.size (fun b e => by injection e with e; omega)
        · have hb1 : decide ((1048576 : Int) < (c.out.length : Int) + (F.size : Int) + 4) = false := by simp; omega
          have HBIG := Lib.hid hbig
          clear hbig
          obtain ⟨os, hos⟩ : ∃ os : ByteArray, os = ⟨c.out.toArray⟩ := ⟨_, rfl⟩
          obtain ⟨fo, hfo⟩ : ∃ fo, fo = fourB F.size := ⟨_, rfl⟩
          have hol : os.size = c.out.length := by rw [hos]; rfl
          have hfl : fo.size = 4 := by rw [hfo]; rfl
          have hs1 : ¬ (9223372036854775807 < os.size + F.size) := by omega
          have hs2 : ¬ (9223372036854775807 < os.size + F.size + fo.size) := by omega
          have h80 := Lib.hid (show Calls Try.prog 80 #[.pointer (some ⟨w.heap.size + 2, 1, none⟩)] X fun e w' => e = .returned (.string os) ∧ Only2 (fun k => w.heap.size + 9 ≤ k) X w' by rw [hos]; exact XM.out.outStr)
          have h82 := Lib.hid (fun W => (show Calls Try.prog 82 #[.int .i64 F.size] W fun e w' => e = .returned (.string fo) ∧ Below W.heap.size W w' by rw [hfo]; exact runFour_calls F.size W (by omega)))
          have HOS := Lib.hid hos
          have HFO := Lib.hid hfo
          clear hos hfo hol hfl
          go_wp2_with (first | (go_at_call 81; refine h81.out.mono ?_; rintro e w10 ⟨rfl, rfl⟩) | (go_at_call 80; refine h80.out.mono ?_; rintro e w11 ⟨rfl, ho11⟩; have h11 := fun k (hk : k < w.heap.size + 9) => ho11.block k (by have := XS.out; omega) (fun h => by have h : w.heap.size + 9 ≤ k := h; omega); have H11 := Lib.hid h11; have HO11 := Lib.hid ho11; clear h11 ho11 c3 c4) | (go_at_call 82; refine (h82.out _).mono ?_; rintro e w12 ⟨rfl, hb12⟩; have h12 := fun k (hk : k < w.heap.size + 9) => (hb12.block k (by have := XS.out; have := HO11.out.size; omega)).trans (H11.out k hk); have H12 := Lib.hid h12; have HB12 := Lib.hid hb12; have c0 := (blk_cell ((h12 _ (by omega)).trans X0.out) 0).trans rfl; have f0 := blk_frozen ((h12 _ (by omega)).trans X0.out) 0; have c1 := (blk_cell ((h12 _ (by omega)).trans X1.out) 0).trans rfl; have f1 := blk_frozen ((h12 _ (by omega)).trans X1.out) 0; clear h12 hb12))
          have hb12 : Below w.heap.size w w12 := XB.out.trans ⟨HB12.out.os.trans HO11.out.os, HB12.out.tape.trans HO11.out.tape, HB12.out.output.trans HO11.out.output, by have := HO11.out.size; have := HB12.out.size; omega, fun k hk => H12.out k (by omega)⟩
          have ZK := Lib.hid ((H12.out _ (by have := HSZ.out; omega)).trans XK.out)
          have ZB := Lib.hid hb12
          obtain ⟨Y, hY⟩ : ∃ Y, Y = (w12.setCell ⟨w.heap.size, 0, none⟩ (.string (os ++ F ++ fo))).setCell ⟨w.heap.size + 1, 0, none⟩ (.int .i64 0) := ⟨_, rfl⟩
          rw [← hY]
          have Y0 := Lib.hid (show Y.heap[w.heap.size]? = some (.cells #[.string (os ++ F ++ fo)] 9 (0, 0)) by rw [hY]; exact blk_far (blk_set ((H12.out _ (by omega)).trans X0.out) 0 _) (p := ⟨w.heap.size + 1, 0, none⟩) (by show w.heap.size ≠ w.heap.size + 1; omega) _)
          have Y1 := Lib.hid (show Y.heap[w.heap.size + 1]? = some (.cells #[.int .i64 0] 31 (0, 0)) by rw [hY]; exact blk_set (blk_far ((H12.out _ (by omega)).trans X1.out) (p := ⟨w.heap.size, 0, none⟩) (by show w.heap.size + 1 ≠ w.heap.size; omega) _) 0 _)
          have YK := Lib.hid (show Y.heap[V6.heap.size]? = some (.deferred (some [])) by have hz8 := HSZ.out; rw [hY]; exact (Below.heap_setCell _ _ _ _ (by show V6.heap.size ≠ w.heap.size + 1; omega)).trans ((Below.heap_setCell _ _ _ _ (by show V6.heap.size ≠ w.heap.size; omega)).trans ZK.out))
          have YB := Lib.hid (show Below w.heap.size w Y by rw [hY]; exact (ZB.out.setCell (p := ⟨w.heap.size, 0, none⟩) (Nat.le_refl _) _).setCell (p := ⟨w.heap.size + 1, 0, none⟩) (Nat.le_succ _) _)
          clear hY
          show bodyPostM _ _ _ _ _ Exit.ret _ _
          have hz8 := HSZ.out
          have hz0 : (Y.putObj V6.heap.size (.deferred none)).cell? ⟨w.heap.size, 0, none⟩ = some (.string (os ++ F ++ fo)) := (blk_cell ((World.putObj_heap_other (by omega)).trans Y0.out) 0).trans rfl
          have hz1 : (Y.putObj V6.heap.size (.deferred none)).cell? ⟨w.heap.size + 1, 0, none⟩ = some (.int .i64 0) := (blk_cell ((World.putObj_heap_other (by omega)).trans Y1.out) 0).trans rfl
          refine ⟨by simp, .inl ⟨_, _, rfl, run_takeDeferred YK.out, ?_⟩⟩
          refine ⟨.tuple #[.string (os ++ F ++ fo), .int .i64 0], ?_, ?_, ?_⟩
          · simp [results, Try.f37, go_sem, hz0, hz1]
          · rw [HBF.out, HBF2.out, if_neg (by rintro (h | h); exact h rfl; exact HBIG.out h), ← HOS.out, ← HFO.out]
            rfl
          · exact Below.grown YB.out (grownBy_put Y _ _) YB.out.size (fun b e => by injection e with e; omega)
      · have hq : ((E : Int) != 0) = true := by simpa using hE
        have HE := Lib.hid hE
        clear hE
        have c0 := (blk_cell X0.out 0).trans rfl
        have f0 := blk_frozen X0.out 0
        have c1 := (blk_cell X1.out 0).trans rfl
        have f1 := blk_frozen X1.out 0
        go_wp2_with fail
        have ZK := Lib.hid XK.out
        have ZB := Lib.hid XB.out
        obtain ⟨Y, hY⟩ : ∃ Y, Y = (X.setCell ⟨w.heap.size, 0, none⟩ (.string ⟨#[]⟩)).setCell ⟨w.heap.size + 1, 0, none⟩ (.int .i64 13) := ⟨_, rfl⟩
        rw [← hY]
        have Y0 := Lib.hid (show Y.heap[w.heap.size]? = some (.cells #[.string ⟨#[]⟩] 9 (0, 0)) by rw [hY]; exact blk_far (blk_set X0.out 0 _) (p := ⟨w.heap.size + 1, 0, none⟩) (by show w.heap.size ≠ w.heap.size + 1; omega) _)
        have Y1 := Lib.hid (show Y.heap[w.heap.size + 1]? = some (.cells #[.int .i64 13] 31 (0, 0)) by rw [hY]; exact blk_set (blk_far X1.out (p := ⟨w.heap.size, 0, none⟩) (by show w.heap.size + 1 ≠ w.heap.size; omega) _) 0 _)
        have YK := Lib.hid (show Y.heap[V6.heap.size]? = some (.deferred (some [])) by have hz8 := HSZ.out; rw [hY]; exact (Below.heap_setCell _ _ _ _ (by show V6.heap.size ≠ w.heap.size + 1; omega)).trans ((Below.heap_setCell _ _ _ _ (by show V6.heap.size ≠ w.heap.size; omega)).trans ZK.out))
        have YB := Lib.hid (show Below w.heap.size w Y by rw [hY]; exact (ZB.out.setCell (p := ⟨w.heap.size, 0, none⟩) (Nat.le_refl _) _).setCell (p := ⟨w.heap.size + 1, 0, none⟩) (Nat.le_succ _) _)
        clear hY
        show bodyPostM _ _ _ _ _ Exit.ret _ _
        have hz8 := HSZ.out
        have hz0 : (Y.putObj V6.heap.size (.deferred none)).cell? ⟨w.heap.size, 0, none⟩ = some (.string ⟨#[]⟩) := (blk_cell ((World.putObj_heap_other (by omega)).trans Y0.out) 0).trans rfl
        have hz1 : (Y.putObj V6.heap.size (.deferred none)).cell? ⟨w.heap.size + 1, 0, none⟩ = some (.int .i64 13) := (blk_cell ((World.putObj_heap_other (by omega)).trans Y1.out) 0).trans rfl
        refine ⟨by simp, .inl ⟨_, _, rfl, run_takeDeferred YK.out, ?_⟩⟩
        refine ⟨.tuple #[.string ⟨#[]⟩, .int .i64 13], ?_, ?_, ?_⟩
        · simp [results, Try.f37, go_sem, hz0, hz1]
        · rw [HBF.out, HBF2.out, if_pos (.inl HE.out)]
          rfl
        · exact Below.grown YB.out (grownBy_put Y _ _) YB.out.size (fun b e => by injection e with e; omega)
    · refine ⟨⟨_, rfl⟩, r2, hlp, by rw [hst]; decide, ?_⟩
      intro W5 hW5
      rw [hpd]
      dsimp only
      refine wpIn_wide.2 ?_
      have h26 := HL2.out
      have hz8 := HSZ.out
      have hbX : Below w.heap.size w W5 := Below.grown hb4 (hW5 ▸ grownBy_put W4 l2 _) hb4.size (fun b e => by injection e with e; omega)
      have ho : ∀ k, k ≠ l2 → W5.heap[k]? = W4.heap[k]? := fun k hk => by rw [hW5]; exact World.putObj_heap_other hk
      have hS5 := (ho _ (by omega)).trans hS
      have hE5 := (ho _ (by omega)).trans hE
      have hK := (ho _ (by omega)).trans hdf
      clear hb4 hS hE hlp hst hpd hdf hW5 ho
      have HX := Lib.hid hbX
      have HS5 := Lib.hid hS5
      have HE5 := Lib.hid hE5
      have HK := Lib.hid hK
      clear hbX hS5 hE5 hK h26 hz8
      go_wp2_with fail
      show bodyPostM _ _ _ _ _ Exit.ret _ _
      have hz8 := HSZ.out
      have hz0 : (W5.putObj V6.heap.size (.deferred none)).cell? ⟨w.heap.size, 0, none⟩ = some (.string ⟨#[]⟩) := (blk_cell ((World.putObj_heap_other (by omega)).trans HS5.out) 0).trans rfl
      have hz1 : (W5.putObj V6.heap.size (.deferred none)).cell? ⟨w.heap.size + 1, 0, none⟩ = some (.int .i64 (goB b rows none ms0).1) := (blk_cell ((World.putObj_heap_other (by omega)).trans HE5.out) 0).trans rfl
      refine ⟨by simp, .inl ⟨_, _, rfl, run_takeDeferred HK.out, ?_⟩⟩
      refine ⟨.tuple #[.string ⟨#[]⟩, .int .i64 (goB b rows none ms0).1], ?_, ?_, ?_⟩
      · simp [results, Try.f37, go_sem, hz0, hz1]
      · unfold buildF
        rw [if_neg (by omega), if_pos hg0]
      · exact Below.grown HX.out (grownBy_put W5 _ _) HX.out.size (fun b e => by injection e with e; omega)
end Go.Proofs.Ytfemjlhfgmbcmaa

namespace Go.Proofs.Ytfemjlhfgmbcmaa
open Go.RowKit Go.Shelf Go.Proofs.YtfemjlhfgmbcmaaW.PrintWords Go.Proofs.YtfemjlhfgmbcmaaW.PrintLast Go.Proofs.YtfemjlhfgmbcmaaW.PrintMore
open Go.Proofs.Ytfemjlhfgmbcmaa.PRunBuilds
set_option linter.unusedVariables false
set_option linter.unusedSimpArgs false
attribute [local go_sem ↓] Go.wp_at_zero Go.wp_at_succ

theorem wraps_i64 (n : Int) (h₀ : 0 ≤ n) (h₁ : n < 2 ^ 63) : IntKind.i64.wrap n = n := by rw [IntKind.wrap_i64]; omega
theorem or_nat (a b k : Nat) (ha : a < 2 ^ k) (hb : 2 ^ k * b < 2 ^ 63) (hk : k ≤ 40) : bits .or .i64 (a : Int) ((2 ^ k * b : Nat) : Int) = ((a + 2 ^ k * b : Nat) : Int) := by
  have h1 := Nat.pow_le_pow_right (n := 2) (by decide) (show k ≤ 63 by omega)
  rw [(bits_nat .i64 63 (by decide) wraps_i64 a _ (by omega) hb).2, Nat.or_comm, ← Nat.two_pow_add_eq_or_of_lt ha, Nat.add_comm]
theorem four_or (a b c d : Nat) (ha : a < 256) (hb : b < 256) (hc : c < 256) (hd : d < 256) :
    bits .or .i64 (bits .or .i64 (bits .or .i64 (a : Int) ((b : Int) * 256)) ((c : Int) * 65536)) ((d : Int) * 16777216) = ((a + 256 * b + 65536 * c + 16777216 * d : Nat) : Int) := by
  have e1 : (b : Int) * 256 = ((2 ^ 8 * b : Nat) : Int) := by omega
  have e2 : (c : Int) * 65536 = ((2 ^ 16 * c : Nat) : Int) := by omega
  have e3 : (d : Int) * 16777216 = ((2 ^ 24 * d : Nat) : Int) := by omega
  rw [e1, or_nat a b 8 (by omega) (by omega) (by omega), e2, or_nat _ c 16 (by omega) (by omega) (by omega), e3, or_nat _ d 24 (by omega) (by omega) (by omega)]

theorem far_is {W W' : World} {base : Nat} {ok ok' : Nat → Prop} {v1 v2 : Value} {xs : List Int} {ys : List ByteArray} (h1 : Kd.R (Kd.int .i64) 3 W base ok v1 xs) (h2 : Kd.R Kd.string 9 W base ok' v2 ys) (hg : W.grownBy W' v1.ownBlock) : Kd.R Kd.string 9 W' base ok' v2 ys := by
  refine Kd.R_mono (Kd.R_step (Kd.R_bound h2) (fun b hb hb2 => hg.block b hb2 (fun e => ?_))) (fun _ h => h.1)
  obtain ⟨_, _, _, q, hq, c, hc⟩ := hb
  obtain ⟨_, _, _, q', hq', c', hc'⟩ := (Kd.R_bound h1).1 b e.symm
  rw [hc] at hc'
  have e1 : q = 9 := List.mem_singleton.1 hq
  have e2 : q' = 3 := List.mem_singleton.1 hq'
  rw [e1, e2] at hc'
  injection hc' with hc'
  injection hc' with _ hc'
  cases hc'
theorem far_si {W W' : World} {base : Nat} {ok ok' : Nat → Prop} {v1 v2 : Value} {xs : List Int} {ys : List ByteArray} (h1 : Kd.R (Kd.int .i64) 3 W base ok v1 xs) (h2 : Kd.R Kd.string 9 W base ok' v2 ys) (hg : W.grownBy W' v2.ownBlock) : Kd.R (Kd.int .i64) 3 W' base ok v1 xs := by
  refine Kd.R_mono (Kd.R_step (Kd.R_bound h1) (fun b hb hb2 => hg.block b hb2 (fun e => ?_))) (fun _ h => h.1)
  obtain ⟨_, _, _, q, hq, c, hc⟩ := hb
  obtain ⟨_, _, _, q', hq', c', hc'⟩ := (Kd.R_bound h2).1 b e.symm
  rw [hc] at hc'
  have e1 : q = 3 := List.mem_singleton.1 hq
  have e2 : q' = 9 := List.mem_singleton.1 hq'
  rw [e1, e2] at hc'
  injection hc' with hc'
  injection hc' with _ hc'
  cases hc'
theorem uintR_val (s : ByteArray) : ∃ u : Nat, (uintR s 0).1 = (u : Int) ∧ u < 18446744073709551616 := by
  rcases uintR_cases s with ⟨v, n, _, _, _, hv, h1, _⟩ | ⟨er, _, h1, _⟩
  · exact ⟨v, by rw [h1], hv⟩
  · exact ⟨0, by rw [h1]; rfl, by decide⟩
theorem uintR_sz (s : ByteArray) : ((uintR s 0).2.2 = 0 ∧ (uintR s 0).2.1.size < s.size) ∨ ((uintR s 0).2.2 ≠ 0 ∧ (uintR s 0).2.1 = s) := by
  rcases uintR_cases s with ⟨v, n, h1, h2, h3, h4, h5, _⟩ | ⟨er, h0, h1, _⟩
  · rw [h5]
    exact .inl ⟨rfl, by show (s.extract n s.size).size < s.size; rw [extract_size_le _ _ _ (Nat.le_refl _)]; omega⟩
  · rw [h1]
    exact .inr ⟨by show (er : Int) ≠ 0; omega, rfl⟩
theorem textR_sz (s : ByteArray) (e most : Int) : (e ≠ 0 → (textR s e most).2.2 = e ∧ (textR s e most).2.1 = s) := by
  intro h
  unfold textR takeR
  rw [if_neg h]
  exact ⟨rfl, rfl⟩
theorem takeF_load (s : ByteArray) : (takeF s).2.1.size ≤ s.size := by
  unfold takeF
  split
  · exact Nat.zero_le _
  · split
    · exact Nat.zero_le _
    · split
      · exact Nat.zero_le _
      · split
        · exact Nat.zero_le _
        · split
          · show (s.extract _ _).size ≤ _
            rw [extract_size_le _ _ _ (by omega)]; omega
          · exact Nat.zero_le _
theorem fourN_lt (t : ByteArray) : fourN t < 4294967296 := by
  have hb : ∀ i, byteN t i < 256 := fun i => by
    unfold byteN
    split
    · exact UInt8.toNat_lt _
    · omega
  have h0 := hb 0
  have h1 := hb 1
  have h2 := hb 2
  have h3 := hb 3
  unfold fourN
  omega
def IdxPost (w : World) (r : Option (Nat × List Int × List ByteArray)) (e : Ending) (w' : World) : Prop := ∃ (at_ : Int) (v1 v2 : Value) (ok : Bool), e = .returned (.tuple #[.int .i64 at_, v1, v2, .bool ok]) ∧ Below w.heap.size w w' ∧ (match r with
      | none => ok = false
      | some x => ok = true ∧ at_ = x.1 ∧ Kd.R (Kd.int .i64) 3 w' w.heap.size (fun _ => True) v1 x.2.1 ∧ Kd.R Kd.string 9 w' w.heap.size (fun _ => True) v2 x.2.2)
theorem IdxPost.none {w w' : World} {at_ : Int} {v1 v2 : Value} {r : Option (Nat × List Int × List ByteArray)} (h : r = none) (hb : Below w.heap.size w w') : IdxPost w r (.returned (.tuple #[.int .i64 at_, v1, v2, .bool false])) w' := by
  rw [h]; exact ⟨_, _, _, _, rfl, hb, rfl⟩
theorem RdIs.grown' {w w1 : World} {g : Nat} {s : ByteArray} {e : Int} {row : Option Nat} (h : RdIs w g s e) (hg : w.grownBy w1 row) (hr : row ≠ some g) : RdIs w1 g s e := (hg.block g h.lt (fun e => hr e.symm)).trans h
theorem idx_fin {w w' : World} {at_ : Nat} {v1 v2 : Value} {r : Option (Nat × List Int × List ByteArray)} {X : Option (List Int × List ByteArray × ByteArray × Int)} {szs : List Int} {fs : List ByteArray} {s : ByteArray} {e : Int} {ok1 ok2 : Nat → Prop}
    (h : r = idxE at_ X) (hX : X = some (szs, fs, s, e)) (hb : Below w.heap.size w w') (h1 : Kd.R (Kd.int .i64) 3 w' w.heap.size ok1 v1 szs) (h2 : Kd.R Kd.string 9 w' w.heap.size ok2 v2 fs) : IdxPost w r (.returned (.tuple #[.int .i64 at_, v1, v2, .bool (endR s e == 0)])) w' := by
  rw [h, hX]
  unfold idxE
  dsimp only
  by_cases he : endR s e = 0
  · rw [if_pos he, he]
    exact ⟨_, _, _, _, rfl, hb, rfl, rfl, Kd.R_mono h1 (fun _ _ => trivial), Kd.R_mono h2 (fun _ _ => trivial)⟩
  · rw [if_neg he]
    exact ⟨_, _, _, _, rfl, hb, by simpa using he⟩
theorem info3 : (Try.prog.info? 3).map (fun i => (i.zero, i.size, i.bytes)) = some (some (.int .i64 0), 1, 8) := by kernel_rfl

set_option maxRecDepth 100000 in
set_option maxHeartbeats 4000000 in
theorem index_calls (b : ByteArray) (w : World) (hs : b.size ≤ 1048576) :
    Calls Try.prog 86 #[.string b] w fun e w' => IdxPost w (indexF b) e w' := by
  by_cases h4 : b.size < 4
  · have hx : indexF b = none := by unfold indexF; rw [if_pos h4]
    have HXN := Lib.hid hx
    clear hx
    have hd : decide ((b.size : Int) < 4) = true := by simp; omega
    go_enter Try.func86, Try.ntmps86
    go_wp2_with fail
    try simp only [Exit.inBlock, Exit.then]
    refine bodyPost_ret (results_list (rs := [.tmp 2, .tmp 3, .tmp 4, .tmp 5]) rfl (by simp) (.tmp (.tmp (.tmp (.tmp .nil))))) rfl ?_
    exact IdxPost.none HXN.out (Below.refl _ _)
  obtain ⟨t, ht⟩ : ∃ t, t = lastT b := ⟨_, rfl⟩
  have hts : t.size = 4 := by rw [ht]; unfold lastT; rw [extract_size_le _ _ _ (Nat.le_refl _)]; omega
  have hd : decide ((b.size : Int) < 4) = false := by simp; omega
  have hcut : ((b.size : Int) - 4).toNat = b.size - 4 := by omega
  go_enter Try.func86, Try.ntmps86
  go_wp2_with fail
  rw [show b.extract (b.size - 4) b.size = t from ht.symm]
  have HT := Lib.hid ht
  clear ht
  have u0 : 0 < t.size := by omega
  have u1 : 1 < t.size := by omega
  have u2 : 2 < t.size := by omega
  have u3 : 3 < t.size := by omega
  refine start_ (n := 19) (S := fun _ => True) (ds := []) #[false, false, false, false, false, false, false, false, false, false, false, false, false, false, false, false, false, false, false] (by kernel_rfl) rfl rfl (trivial) (fun hHeld => ?_)
  refine pure_ (i := 0) (N := some 28) (v := ?_) (a' := ?_) #[true, false, false, false, false, false, false, false, false, false, false, false, false, false, false, false, false, false, false] rfl rfl (by kernel_rfl) (fun _ _ _ h => h) (Or.inl ⟨by rfl, ?_⟩) ?_ ?_
  rotate_left
  · intro w'
    go_simp
    with_reducible rfl
  rotate_left
  · simp only [Act.put, List.setIfInBounds_toArray, List.set_cons_zero, List.set_cons_succ, i64_w, i32_w]
    rfl
  refine pure_ (i := 1) (N := some 29) (v := ?_) (a' := ?_) #[true, true, false, false, false, false, false, false, false, false, false, false, false, false, false, false, false, false, false] rfl rfl (by kernel_rfl) (fun _ _ _ h => h) (Or.inl ⟨by rfl, ?_⟩) ?_ ?_
  rotate_left
  · intro w'
    go_simp
    with_reducible rfl
  rotate_left
  · simp only [Act.put, List.setIfInBounds_toArray, List.set_cons_zero, List.set_cons_succ, i64_w, i32_w]
    rfl
  refine pure_ (i := 2) (N := some 30) (v := ?_) (a' := ?_) #[true, true, true, false, false, false, false, false, false, false, false, false, false, false, false, false, false, false, false] rfl rfl (by kernel_rfl) (fun _ _ _ h => h) (Or.inl ⟨by rfl, ?_⟩) ?_ ?_
  rotate_left
  · intro w'
    go_simp
    with_reducible rfl
  rotate_left
  · simp only [Act.put, List.setIfInBounds_toArray, List.set_cons_zero, List.set_cons_succ, i64_w, i32_w]
    rfl
  refine pure_ (i := 3) (N := some 31) (v := ?_) (a' := ?_) #[true, true, true, true, false, false, false, false, false, false, false, false, false, false, false, false, false, false, false] rfl rfl (by kernel_rfl) (fun _ _ _ h => h) (Or.inl ⟨by rfl, ?_⟩) ?_ ?_
  rotate_left
  · intro w'
    go_simp
    with_reducible rfl
  rotate_left
  · simp only [Act.put, List.setIfInBounds_toArray, List.set_cons_zero, List.set_cons_succ, i64_w, i32_w]
    rfl
  refine pure_ (i := 4) (N := some 32) (v := ?_) (a' := ?_) #[true, true, true, true, true, false, false, false, false, false, false, false, false, false, false, false, false, false, false] rfl rfl (by kernel_rfl) (fun _ _ _ h => h) (Or.inl ⟨by rfl, ?_⟩) ?_ ?_
  rotate_left
  · intro w'
    go_simp
    with_reducible rfl
  rotate_left
  · simp only [Act.put, List.setIfInBounds_toArray, List.set_cons_zero, List.set_cons_succ, i64_w, i32_w]
    rfl
  refine pure_ (i := 5) (N := some 33) (v := ?_) (a' := ?_) #[true, true, true, true, true, true, false, false, false, false, false, false, false, false, false, false, false, false, false] rfl rfl (by kernel_rfl) (fun _ _ _ h => h) (Or.inl ⟨by rfl, ?_⟩) ?_ ?_
  rotate_left
  · intro w'
    go_simp
    with_reducible rfl
  rotate_left
  · simp only [Act.put, List.setIfInBounds_toArray, List.set_cons_zero, List.set_cons_succ, i64_w, i32_w]
    rfl
  refine pure_ (i := 6) (N := some 34) (v := ?_) (a' := ?_) #[true, true, true, true, true, true, true, false, false, false, false, false, false, false, false, false, false, false, false] rfl rfl (by kernel_rfl) (fun _ _ _ h => h) (Or.inl ⟨by rfl, ?_⟩) ?_ ?_
  rotate_left
  · intro w'
    go_simp
    with_reducible rfl
  rotate_left
  · simp only [Act.put, List.setIfInBounds_toArray, List.set_cons_zero, List.set_cons_succ, i64_w, i32_w]
    rfl
  refine pure_ (i := 7) (N := some 35) (v := ?_) (a' := ?_) #[true, true, true, true, true, true, true, true, false, false, false, false, false, false, false, false, false, false, false] rfl rfl (by kernel_rfl) (fun _ _ _ h => h) (Or.inl ⟨by rfl, ?_⟩) ?_ ?_
  rotate_left
  · intro w'
    go_simp
    with_reducible rfl
  rotate_left
  · simp only [Act.put, List.setIfInBounds_toArray, List.set_cons_zero, List.set_cons_succ, i64_w, i32_w]
    rfl
  refine pure_ (i := 8) (N := some 36) (v := ?_) (a' := ?_) #[true, true, true, true, true, true, true, true, true, false, false, false, false, false, false, false, false, false, false] rfl rfl (by kernel_rfl) (fun _ _ _ h => h) (Or.inl ⟨by rfl, ?_⟩) ?_ ?_
  rotate_left
  · intro w'
    go_simp
    with_reducible rfl
  rotate_left
  · simp only [Act.put, List.setIfInBounds_toArray, List.set_cons_zero, List.set_cons_succ, i64_w, i32_w]
    rfl
  refine pure_ (i := 9) (N := some 37) (v := ?_) (a' := ?_) #[true, true, true, true, true, true, true, true, true, true, false, false, false, false, false, false, false, false, false] rfl rfl (by kernel_rfl) (fun _ _ _ h => h) (Or.inl ⟨by rfl, ?_⟩) ?_ ?_
  rotate_left
  · intro w'
    go_simp
    with_reducible rfl
  rotate_left
  · simp only [Act.put, List.setIfInBounds_toArray, List.set_cons_zero, List.set_cons_succ, i64_w, i32_w]
    rfl
  refine pure_ (i := 10) (N := some 38) (v := ?_) (a' := ?_) #[true, true, true, true, true, true, true, true, true, true, true, false, false, false, false, false, false, false, false] rfl rfl (by kernel_rfl) (fun _ _ _ h => h) (Or.inl ⟨by rfl, ?_⟩) ?_ ?_
  rotate_left
  · intro w'
    go_simp
    with_reducible rfl
  rotate_left
  · simp only [Act.put, List.setIfInBounds_toArray, List.set_cons_zero, List.set_cons_succ, i64_w, i32_w]
    rfl
  refine pure_ (i := 11) (N := some 39) (v := ?_) (a' := ?_) #[true, true, true, true, true, true, true, true, true, true, true, true, false, false, false, false, false, false, false] rfl rfl (by kernel_rfl) (fun _ _ _ h => h) (Or.inl ⟨by rfl, ?_⟩) ?_ ?_
  rotate_left
  · intro w'
    go_simp
    with_reducible rfl
  rotate_left
  · simp only [Act.put, List.setIfInBounds_toArray, List.set_cons_zero, List.set_cons_succ, i64_w, i32_w]
    rfl
  refine pure_ (i := 12) (N := some 40) (v := ?_) (a' := ?_) #[true, true, true, true, true, true, true, true, true, true, true, true, true, false, false, false, false, false, false] rfl rfl (by kernel_rfl) (fun _ _ _ h => h) (Or.inl ⟨by rfl, ?_⟩) ?_ ?_
  rotate_left
  · intro w'
    go_simp
    with_reducible rfl
  rotate_left
  · simp only [Act.put, List.setIfInBounds_toArray, List.set_cons_zero, List.set_cons_succ, i64_w, i32_w]
    rfl
  refine pure_ (i := 13) (N := some 41) (v := ?_) (a' := ?_) #[true, true, true, true, true, true, true, true, true, true, true, true, true, true, false, false, false, false, false] rfl rfl (by kernel_rfl) (fun _ _ _ h => h) (Or.inl ⟨by rfl, ?_⟩) ?_ ?_
  rotate_left
  · intro w'
    go_simp
    with_reducible rfl
  rotate_left
  · simp only [Act.put, List.setIfInBounds_toArray, List.set_cons_zero, List.set_cons_succ, i64_w, i32_w]
    rfl
  refine pure_ (i := 14) (N := some 42) (v := ?_) (a' := ?_) #[true, true, true, true, true, true, true, true, true, true, true, true, true, true, true, false, false, false, false] rfl rfl (by kernel_rfl) (fun _ _ _ h => h) (Or.inl ⟨by rfl, ?_⟩) ?_ ?_
  rotate_left
  · intro w'
    go_simp
    with_reducible rfl
  rotate_left
  · simp only [Act.put, List.setIfInBounds_toArray, List.set_cons_zero, List.set_cons_succ, i64_w, i32_w]
    rfl
  refine pure_ (i := 15) (N := some 43) (v := ?_) (a' := ?_) #[true, true, true, true, true, true, true, true, true, true, true, true, true, true, true, true, false, false, false] rfl rfl (by kernel_rfl) (fun _ _ _ h => h) (Or.inl ⟨by rfl, ?_⟩) ?_ ?_
  rotate_left
  · intro w'
    go_simp
    with_reducible rfl
  rotate_left
  · simp only [Act.put, List.setIfInBounds_toArray, List.set_cons_zero, List.set_cons_succ, i64_w, i32_w]
    rfl
  refine pure_ (i := 16) (N := some 44) (v := ?_) (a' := ?_) #[true, true, true, true, true, true, true, true, true, true, true, true, true, true, true, true, true, false, false] rfl rfl (by kernel_rfl) (fun _ _ _ h => h) (Or.inl ⟨by rfl, ?_⟩) ?_ ?_
  rotate_left
  · intro w'
    go_simp
    with_reducible rfl
  rotate_left
  · simp only [Act.put, List.setIfInBounds_toArray, List.set_cons_zero, List.set_cons_succ, i64_w, i32_w]
    rfl
  refine pure_ (i := 17) (N := some 45) (v := ?_) (a' := ?_) #[true, true, true, true, true, true, true, true, true, true, true, true, true, true, true, true, true, true, false] rfl rfl (by kernel_rfl) (fun _ _ _ h => h) (Or.inl ⟨by rfl, ?_⟩) ?_ ?_
  rotate_left
  · intro w'
    go_simp
    with_reducible rfl
  rotate_left
  · simp only [Act.put, List.setIfInBounds_toArray, List.set_cons_zero, List.set_cons_succ, i64_w, i32_w]
    rfl
  refine pure_ (i := 18) (N := some 7) (v := ?_) (a' := ?_) #[true, true, true, true, true, true, true, true, true, true, true, true, true, true, true, true, true, true, true] rfl rfl (by kernel_rfl) (fun _ _ _ h => h) (Or.inl ⟨by rfl, ?_⟩) ?_ ?_
  rotate_left
  · intro w'
    go_simp
    with_reducible rfl
  rotate_left
  · simp only [Act.put, List.setIfInBounds_toArray, List.set_cons_zero, List.set_cons_succ, i64_w, i32_w]
    rfl
  refine done_ (by kernel_rfl) ?_

  have hw64 : ∀ x : Nat, x < 4611686018427387904 → wrap64 (x : Int) = x := fun x hx => IntWalk.wrap64_in _ (by omega)
  have hbt : ∀ i (h : i < t.size), t[i].toNat < 256 := fun i h => UInt8.toNat_lt _
  have hn : bits .or .i64 (bits .or .i64 (bits .or .i64 (wrap64 ((t[0].toNat : Nat) : Int)) (wrap64 (wrap64 ((t[1].toNat : Nat) : Int) * 256))) (wrap64 (wrap64 ((t[2].toNat : Nat) : Int) * 65536))) (wrap64 (wrap64 ((t[3].toNat : Nat) : Int) * 16777216)) = (fourN t : Int) := by
    have b0 := hbt 0 u0
    have b1 := hbt 1 u1
    have b2 := hbt 2 u2
    have b3 := hbt 3 u3
    rw [hw64 _ (by omega), hw64 t[1].toNat (by omega), hw64 t[2].toNat (by omega), hw64 t[3].toNat (by omega), IntWalk.wrap64_in _ (by omega), IntWalk.wrap64_in (((t[2].toNat : Nat) : Int) * 65536) (by omega), IntWalk.wrap64_in (((t[3].toNat : Nat) : Int) * 16777216) (by omega), four_or _ _ _ _ b0 b1 b2 b3]
    unfold fourN byteN
    rw [dif_pos u0, dif_pos u1, dif_pos u2, dif_pos u3]
  simp only [hn]
  have hn32 := fourN_lt t
  have HN := Lib.hid (show fourN t = fourN (lastT b) by rw [HT.out])
  generalize fourN t = n at hn hn32 HN ⊢
  clear hn hbt hw64 hcut hHeld
  by_cases h5 : b.size < 4 + n
  · have hx : indexF b = none := by unfold indexF; rw [if_neg h4, ← HN.out, if_pos h5]
    have HXN := Lib.hid hx
    clear hx
    have hd2 : decide ((b.size : Int) - 4 - (n : Int) < 0) = true := by simp; omega
    go_wp2_with fail
    (try simp only [Exit.inBlock, Exit.then]); refine bodyPost_ret (results_list (rs := [.tmp 2, .tmp 3, .tmp 4, .tmp 5]) rfl (by simp) (.tmp (.tmp (.tmp (.tmp .nil))))) rfl ?_
    exact IdxPost.none HXN.out (below_drew1 (Below.refl _ _))
  have hd2 : decide ((b.size : Int) - 4 - (n : Int) < 0) = false := by simp; omega
  have ht1 : ((b.size : Int) - 4 - (n : Int)).toNat = b.size - 4 - n := by omega
  have ht2 : ((b.size : Int) - 4).toNat = b.size - 4 := by omega
  have hat : (b.size : Int) - 4 - (n : Int) = ((b.size - 4 - n : Nat) : Int) := by omega
  obtain ⟨x, hx⟩ : ∃ x, x = idxT b := ⟨_, rfl⟩
  have hxe : b.extract (b.size - 4 - n) (b.size - 4) = x := by rw [hx]; unfold idxT; rw [← HN.out]
  have hxs : x.size ≤ maxLen := by rw [← hxe]; unfold maxLen; rw [extract_size_le _ _ _ (by omega)]; omega
  have HI : Hid (indexF b = if (takeF x).2.2.2 ≠ 0 ∨ (takeF x).2.2.1 ≠ n ∨ (takeF x).1 ≠ 3 then none else idxE (b.size - 4 - n) (idxG (uintR (takeF x).2.1 0).1.toNat (uintR (takeF x).2.1 0).2.1 (uintR (takeF x).2.1 0).2.2 [] [])) := Lib.hid (by
    unfold indexF; rw [if_neg h4, ← HN.out, if_neg h5, ← hx])
  have HTK := Lib.hid (fun W => Take_calls x W hxs)
  have HLD := Lib.hid (show (takeF x).2.1.size ≤ 1048576 by
    have h := takeF_load x
    have h2 : x.size ≤ 1048576 := by rw [← hxe, extract_size_le _ _ _ (by omega)]; omega
    omega)
  obtain ⟨T, hT⟩ : ∃ T, T = takeF x := ⟨_, rfl⟩
  rw [← hT] at HI HTK HLD
  obtain ⟨kd, ld, got, er⟩ := T
  dsimp only at HI HTK HLD
  clear hT hx hxs HN HT h4
  by_cases h6 : er ≠ 0 ∨ got ≠ n ∨ kd ≠ 3
  · have HXN := Lib.hid (HI.out.trans (if_pos h6))
    have hb1 : ((er : Int) != 0) = decide (er ≠ 0) := by by_cases h : er = 0 <;> simp [h]
    have hb2 : ((got : Int) != (n : Int)) = decide (got ≠ n) := by by_cases h : got = n <;> simp [h]; omega
    have hb3 : (kd != 3) = decide (kd ≠ 3) := by by_cases h : kd = 3 <;> simp [h]
    by_cases q1 : er = 0
    · have e1 : decide (er ≠ 0) = false := by simp [q1]
      rw [e1] at hb1
      by_cases q2 : got = n
      · have e2 : decide (got ≠ n) = false := by simp [q2]
        have e3 : decide (kd ≠ 3) = true := by simp; intro h; exact (h6.elim (fun h => h q1) (fun h6 => h6.elim (fun h => h q2) (fun h6 => h6 h)))
        rw [e2] at hb2
        rw [e3] at hb3
        clear e1 e2 e3 h6 q1 q2 HI
        go_wp2_with (go_at_call 65; (try rw [hxe]); refine (HTK.out _).mono ?_; rintro e w1 ⟨rfl, hbw⟩)
        (try simp only [Exit.inBlock, Exit.then]); refine bodyPost_ret (results_list (rs := [.tmp 2, .tmp 3, .tmp 4, .tmp 5]) rfl (by simp) (.tmp (.tmp (.tmp (.tmp .nil))))) rfl ?_
        exact IdxPost.none HXN.out ((below_drew1 (Below.refl _ _)).trans hbw)
      · have e2 : decide (got ≠ n) = true := by simp [q2]
        rw [e2] at hb2
        clear e1 e2 h6 q1 q2 HI hb3
        go_wp2_with (go_at_call 65; (try rw [hxe]); refine (HTK.out _).mono ?_; rintro e w1 ⟨rfl, hbw⟩)
        (try simp only [Exit.inBlock, Exit.then]); refine bodyPost_ret (results_list (rs := [.tmp 2, .tmp 3, .tmp 4, .tmp 5]) rfl (by simp) (.tmp (.tmp (.tmp (.tmp .nil))))) rfl ?_
        exact IdxPost.none HXN.out ((below_drew1 (Below.refl _ _)).trans hbw)
    · have e1 : decide (er ≠ 0) = true := by simp [q1]
      rw [e1] at hb1
      clear e1 h6 q1 HI hb3 hb2
      go_wp2_with (go_at_call 65; (try rw [hxe]); refine (HTK.out _).mono ?_; rintro e w1 ⟨rfl, hbw⟩)
      (try simp only [Exit.inBlock, Exit.then]); refine bodyPost_ret (results_list (rs := [.tmp 2, .tmp 3, .tmp 4, .tmp 5]) rfl (by simp) (.tmp (.tmp (.tmp (.tmp .nil))))) rfl ?_
      exact IdxPost.none HXN.out ((below_drew1 (Below.refl _ _)).trans hbw)
  have HI2 := Lib.hid (HI.out.trans (if_neg h6))
  obtain rfl : er = 0 := Classical.byContradiction fun h => h6 (.inl h)
  obtain rfl : got = n := Classical.byContradiction fun h => h6 (.inr (.inl h))
  obtain rfl : kd = 3 := Classical.byContradiction fun h => h6 (.inr (.inr h))
  clear HI h6
  have hb1 : (((0 : Nat) : Int) != 0) = false := rfl
  have hb2 : ((got : Int) != (got : Int)) = false := by simp
  have hb3 : ((3 : Int) != 3) = false := rfl
  obtain ⟨v, hv, hvl⟩ := uintR_val ld
  have husz := uintR_sz ld
  have HLS := Lib.hid (show ld.size ≤ 1048576 from HLD.out)
  have HRU := Lib.hid (fun (g : Nat) (W : World) (h : RdIs W g ld 0) => Uint_calls g ld 0 W (by unfold maxLen; have := HLD.out; omega) h)
  obtain ⟨U, hU⟩ : ∃ U, U = uintR ld 0 := ⟨_, rfl⟩
  rw [← hU] at HI2 hv husz HRU
  obtain ⟨u0', s1, e1⟩ := U
  dsimp only at HI2 hv husz HRU
  subst hv
  rw [Int.toNat_natCast] at HI2
  obtain ⟨X, hX⟩ : ∃ X, idxG v s1 e1 [] [] = X := ⟨_, rfl⟩
  rw [hX] at HI2
  have HX := Lib.hid hX
  have HS1 := Lib.hid (show (e1 = 0 → s1.size ≤ ld.size) ∧ s1.size ≤ ld.size by rcases husz with ⟨h1, h2⟩ | ⟨h1, h2⟩; exact ⟨fun _ => by omega, by omega⟩; exact ⟨fun h => absurd h h1, by rw [h2]; exact Nat.le_refl _⟩)
  clear hX hU husz HLD
  go_wp2_with (first | (go_at_call 65; (try rw [hxe]); refine (HTK.out _).mono ?_; rintro e w1 ⟨rfl, hbw⟩; have HBW := Lib.hid hbw; clear hbw) | (go_at_call 29; refine (Read_calls ld _).mono ?_; rintro e w2 ⟨rfl, hr2, hb2', hsz2⟩; have HR2 := Lib.hid hr2; have HB2 := Lib.hid hb2'; clear hr2 hb2' hsz2) | (go_at_call 30; refine (HRU.out _ _ HR2.out).mono ?_; rintro e w3 ⟨rfl, hr3, ho3⟩; have HR3 := Lib.hid hr3; have HO3 := Lib.hid ho3; clear hr3 ho3))
  have hb3w : Below w.heap.size w w3 := (((below_drew1 (Below.refl w.heap.size w)).trans HBW.out).trans (HB2.out.mono (show w.heap.size ≤ w1.heap.size from HBW.out.size))).trans (HO3.out.toBelow (Below.refl _ _) (show w.heap.size ≤ w1.heap.size from HBW.out.size) (by have h1 : w.heap.size ≤ w1.heap.size := HBW.out.size; have := HB2.out.size; omega))
  obtain ⟨g, hg⟩ : ∃ g, g = w1.heap.size := ⟨_, rfl⟩
  have HGW := Lib.hid (show w.heap.size ≤ g by rw [hg]; exact HBW.out.size)
  rw [← hg] at HR3 ⊢
  have HB3 := Lib.hid hb3w
  have c0 := HR3.out.c0
  have c1 := HR3.out.c1
  clear hg hb3w HBW HR2 HB2 HO3 HTK HRU hxe hat ht1 ht2 hb1 hb2 hb3
  go_loopw [15, 16, 17] (fun sv fv iv W => ∃ (k : Nat) (s2 : ByteArray) (e2 : Int) (szs : List Int) (fs : List ByteArray), iv = .int .u64 k ∧ k ≤ v ∧ Below w.heap.size w W ∧ RdIs W g s2 e2 ∧ Hid (idxG (v - k) s2 e2 szs fs = X) ∧ s2.size ≤ ld.size ∧ (e2 = 0 → k + s2.size ≤ ld.size) ∧ szs.length = k ∧ fs.length = k ∧ Kd.R (Kd.int .i64) 3 W w.heap.size (fun b => b ≠ g) sv szs ∧ Kd.R Kd.string 9 W w.heap.size (fun b => b ≠ g) fv fs) (fun _ _ iv _ => v - (intOf iv).toNat)
  case atStart => exact ⟨0, s1, e1, [], [], rfl, Nat.zero_le _, HB3.out, HR3.out, HX, HS1.out.2, fun h => by have := HS1.out.1 h; omega, rfl, rfl, Kd.R_nil _ _ _ _ _, Kd.R_nil _ _ _ _ _⟩
  case round =>
    obtain ⟨k, s2, e2, szs, fs, rfl, hk, hbw, hrd, HN, hs2, hk2, hl1, hl2, hr1, hr2⟩ := hrel
    have HBW := Lib.hid hbw
    have HRD := Lib.hid hrd
    have HK1 := Lib.hid hr1
    have HK2 := Lib.hid hr2
    have HLN := Lib.hid (⟨hs2, hk2, hl1, hl2⟩ : s2.size ≤ ld.size ∧ (e2 = 0 → k + s2.size ≤ ld.size) ∧ szs.length = k ∧ fs.length = k)
    clear hbw hrd hr1 hr2 hs2 hk2 hl1 hl2 HR3 HB3 HX HS1 c0 c1
    have c0 := HRD.out.c0
    have c1 := HRD.out.c1
    by_cases he : e2 = 0
    · subst he
      have HKS := Lib.hid (show s2.size ≤ ld.size ∧ k + s2.size ≤ ld.size ∧ szs.length = k ∧ fs.length = k from ⟨HLN.out.1, HLN.out.2.1 rfl, HLN.out.2.2⟩)
      clear HLN
      by_cases hlt : k < v
      · obtain ⟨u, hu, hul⟩ := uintR_val s2
        have husz := uintR_sz s2
        have hN : (if (1048576 : Int) < (uintR s2 0).1 then none else idxG (v - (k + 1)) (textR (uintR s2 0).2.1 (uintR s2 0).2.2 64).2.1 (textR (uintR s2 0).2.1 (uintR s2 0).2.2 64).2.2 (szs ++ [(uintR s2 0).1]) (fs ++ [(textR (uintR s2 0).2.1 (uintR s2 0).2.2 64).1])) = X := by
          rw [← HN.out, show v - k = (v - (k + 1)) + 1 by omega, idxG, if_pos rfl]
        have HRU := Lib.hid (fun (W : World) (h : RdIs W g s2 0) => Uint_calls g s2 0 W (by unfold maxLen; have := HKS.out; have := HLS.out; omega) h)
        obtain ⟨U, hU⟩ : ∃ U, U = uintR s2 0 := ⟨_, rfl⟩
        rw [← hU] at hN hu husz HRU
        obtain ⟨u0, s3, e3⟩ := U
        dsimp only at hN hu husz HRU
        subst hu
        have htsz := textR_size s3 64
        have htne := textR_sz s3 e3 64
        have hs3 : s3.size ≤ s2.size := by rcases husz with ⟨_, h⟩ | ⟨_, h⟩; omega; rw [h]; exact Nat.le_refl _
        have HRT := Lib.hid (fun (W : World) (h : RdIs W g s3 e3) => Text_calls g s3 e3 64 W (by unfold maxLen; have := HKS.out; have := HLS.out; omega) (by decide) (by decide) h)
        obtain ⟨T, hT⟩ : ∃ T, T = textR s3 e3 64 := ⟨_, rfl⟩
        have hsz4 : (T.2.2 = 0 → T.2.1.size < s2.size) ∧ T.2.1.size ≤ s2.size := by
          by_cases h3 : e3 = 0
          · have h3s : s3.size < s2.size := by rcases husz with ⟨_, h⟩ | ⟨h, _⟩; exact h; exact absurd h3 h
            rw [h3] at hT
            rw [← hT] at htsz
            rcases htsz with ⟨h1, h2⟩ | ⟨h1, h2⟩
            · exact ⟨fun _ => by omega, by omega⟩
            · exact ⟨fun h => absurd h h1, by rw [h2]; omega⟩
          · have h4 := htne h3
            rw [← hT] at h4
            exact ⟨fun h => absurd (h4.1.symm.trans h) h3, by rw [h4.2]; exact hs3⟩
        rw [← hT] at hN HRT
        obtain ⟨tx, s4, e4⟩ := T
        dsimp only at hN HRT hsz4
        clear hU hT htsz htne husz
        by_cases hbig : 1048576 < u
        · have hd1 : decide ((1048576 : Int) < (u : Int)) = true := by simp; omega
          have HX2 := Lib.hid (show X = none by rw [← hN, if_pos (by omega)])
          clear hN hbig HN hs3 hsz4
          go_wp2_with (first | (go_at_call 31; refine (Err_calls g s2 0 _ HRD.out).mono ?_; rintro e w3' ⟨rfl, rfl⟩) | (go_at_call 30; refine (HRU.out _ HRD.out).mono ?_; rintro e w4 ⟨rfl, hr4, ho4⟩; have HR4 := Lib.hid hr4; have HO4 := Lib.hid ho4; clear hr4 ho4 c0 c1) | (go_at_call 33; refine (HRT.out _ HR4.out).mono ?_; rintro e w5 ⟨rfl, hr5, ho5⟩; have HR5 := Lib.hid hr5; have HO5 := Lib.hid ho5; clear hr5 ho5))
          (try simp only [Exit.inBlock, Exit.then]); refine bodyPost_ret (results_list (rs := [.tmp 2, .tmp 3, .tmp 4, .tmp 5]) rfl (by simp) (.tmp (.tmp (.tmp (.tmp .nil))))) rfl ?_
          exact IdxPost.none (by rw [HI2.out, HX2.out]; rfl) ((HO4.out.trans HO5.out).toBelow HBW.out HGW.out HBW.out.size)
        · have hd1 : decide ((1048576 : Int) < (u : Int)) = false := by simp; omega
          have HN2 := Lib.hid (show idxG (v - (k + 1)) s4 e4 (szs ++ [(u : Int)]) (fs ++ [tx]) = X by rw [← hN, if_neg (by omega)])
          have HSZ := Lib.hid hsz4
          have HUB := Lib.hid hbig
          clear hN HN hs3 hsz4
          go_wp2_with (first | (go_at_call 31; refine (Err_calls g s2 0 _ HRD.out).mono ?_; rintro e w3' ⟨rfl, rfl⟩) | (go_at_call 30; refine (HRU.out _ HRD.out).mono ?_; rintro e w4 ⟨rfl, hr4, ho4⟩; have HR4 := Lib.hid hr4; have HO4 := Lib.hid ho4; clear hr4 ho4 c0 c1) | (go_at_call 33; refine (HRT.out _ HR4.out).mono ?_; rintro e w5 ⟨rfl, hr5, ho5⟩; have HR5 := Lib.hid hr5; have HO5 := Lib.hid (HO4.out.trans ho5); clear hr5 ho5; have HK15 := Lib.hid (Kd.R_step HK1.out (fun b hb hb2 => HO5.out.block b hb2 hb)); have HK25 := Lib.hid (Kd.R_step HK2.out (fun b hb hb2 => HO5.out.block b hb2 hb)); have HS5 := Lib.hid (show w.heap.size ≤ w5.heap.size by have := HBW.out.size; have := HO5.out.size; omega)) | ((with_reducible refine gate_builtin (b := .append) (xs := #[.tmp 96, .tmp 99]) rfl ?_); at_builtin; refine Kd.R_append (Kd.int .i64) (w0 := w5) w.heap.size rfl (.tmp 96) (.tmp 99) 138 3 (.int .i64 0) 8 rfl Try.underlying138 info3 rfl (by decide) (by decide) u15 szs (u : Int) [.int .i64 u] (fun q => q ≠ g) (fun _ => False) rfl rfl ?aP (fun _ hk => hk.elim) ?aF ?aO ?aB ?aS ?aL ?_; (case aP => exact rfl); (case aF => exact (fun q hq => by have := (HR5.out).lt; omega)); (case aO => exact HK15.out); (case aB => exact Below.refl _ _); (case aS => exact HS5.out); (case aL => (have := HKS.out; have := HLS.out; omega)); intro v1 w6 hR _ hgr _; have HR6 := Lib.hid hR; have HGR := Lib.hid hgr; have HF6 := Lib.hid (far_is HK15.out HK25.out hgr); clear hR hgr) | ((with_reducible refine gate_builtin (b := .append) (xs := #[.tmp 101, .tmp 103]) rfl ?_); at_builtin; refine Kd.R_append Kd.string (w0 := w6) w.heap.size rfl (.tmp 101) (.tmp 103) 57 9 (.string ⟨#[]⟩) 16 rfl Try.underlying57 info9 rfl (by decide) (by decide) u16 fs tx [.string tx] (fun q => q ≠ g) (fun _ => False) rfl rfl ?aP (fun _ hk => hk.elim) ?aF ?aO ?aB ?aS ?aL ?_; (case aP => exact rfl); (case aF => exact (fun q hq => by have := (RdIs.grown' HR5.out HGR.out (fun e => HK15.out.1 g e rfl)).lt; omega)); (case aO => exact HF6.out); (case aB => exact Below.refl _ _); (case aS => exact (by have := HGR.out.size; have := HS5.out; omega)); (case aL => (have := HKS.out; have := HLS.out; omega)); intro v2 w7 hR _ hgr _; have HR7 := Lib.hid hR; have HGR7 := Lib.hid hgr; clear hR hgr))
          go_roundw
          case rel =>
            refine ⟨k + 1, s4, e4, szs ++ [(u : Int)], fs ++ [tx], by go_num, by omega, ?_, ?_, HN2.out, by have := HSZ.out; have := HKS.out; omega, fun h => by have := HSZ.out; have := HKS.out; omega, by have := HKS.out; simp only [List.length_append, List.length_singleton]; omega, by have := HKS.out; simp only [List.length_append, List.length_singleton]; omega, far_si HR6.out HF6.out HGR7.out, HR7.out⟩
            · exact Below.grown (Below.grown (HO5.out.toBelow HBW.out HGW.out HBW.out.size) HGR.out HS5.out (fun q e => ((Kd.R_bound HK15.out).1 q e).2.1)) HGR7.out (by have := HGR.out.size; have := HS5.out; omega) (fun q e => ((Kd.R_bound HF6.out).1 q e).2.1)
            · exact RdIs.grown' (RdIs.grown' HR5.out HGR.out (fun e => HK15.out.1 g e rfl)) HGR7.out (fun e => HF6.out.1 g e rfl)
          case measure => simp [intOf]; omega
      · have hkv : k = v := by omega
        subst hkv
        have HX2 := Lib.hid (show X = some (szs, fs, s2, 0) by rw [← HN.out, Nat.sub_self]; rfl)
        clear HN hlt
        go_wp2_with (go_at_call 58; refine (End_calls g s2 0 _ HRD.out).mono ?_; rintro e w' ⟨rfl, rfl⟩)
        (try simp only [Exit.inBlock, Exit.then]); refine bodyPost_ret (results_list (rs := [.tmp 2, .tmp 3, .tmp 4, .tmp 5]) rfl (by simp) (.tmp (.tmp (.tmp (.tmp .nil))))) rfl ?_
        exact idx_fin HI2.out HX2.out HBW.out HK1.out HK2.out
    · have hne : (e2 == 0) = false := by simpa using he
      have HX2 := Lib.hid (show X = some (szs, fs, s2, e2) by
        rw [← HN.out]
        cases hh : v - k with
        | zero => rfl
        | succ m => rw [idxG, if_neg he])
      clear HN he
      by_cases hlt : k < v
      all_goals
        go_wp2_with (first | (go_at_call 31; refine (Err_calls g s2 e2 _ HRD.out).mono ?_; rintro e w3' ⟨rfl, rfl⟩) | (go_at_call 58; refine (End_calls g s2 e2 _ HRD.out).mono ?_; rintro e w' ⟨rfl, rfl⟩))
        (try simp only [Exit.inBlock, Exit.then]); refine bodyPost_ret (results_list (rs := [.tmp 2, .tmp 3, .tmp 4, .tmp 5]) rfl (by simp) (.tmp (.tmp (.tmp (.tmp .nil))))) rfl ?_
        exact idx_fin HI2.out HX2.out HBW.out HK1.out HK2.out
end Go.Proofs.Ytfemjlhfgmbcmaa
