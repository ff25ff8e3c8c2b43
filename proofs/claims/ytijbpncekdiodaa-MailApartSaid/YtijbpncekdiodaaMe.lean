/- The closures of Take and Copy. Laid by gen_me.py. -/
import Derived.Test.YtijbpncekdiodaaMd
namespace Go.Proofs.Ytijbpncekdiodaa
open Go.RowKit Go.Proofs.YtijbpncekdiodaaW.PrintWords Go.Proofs.YtijbpncekdiodaaW.PrintLast Go.Proofs.YtijbpncekdiodaaW.PrintMore
open Go.Proofs.Ytijbpncekdiodaa.PMailMoves
set_option linter.unusedVariables false
set_option linter.unusedSimpArgs false
attribute [local go_sem ↓] Go.wp_at_zero Go.wp_at_succ

theorem St.grown {bp ip g gA : Nat} {i : Int} {v : Value} {cs : List Value} {w w' : World} {row : Option Nat} (h : St bp ip g gA i v cs w) (hg : w.grownBy w' row) (hr : ∀ b, row = some b → b ≠ bp ∧ b ≠ ip ∧ b ≠ g ∧ b ≠ gA) : St bp ip g gA i v cs w' :=
  ⟨cell_grown hg h.1 (fun e => (hr _ e.symm).1 rfl), cell_grown hg h.2.1 (fun e => (hr _ e.symm).2.1 rfl), cell_grown hg h.2.2.1 (fun e => (hr _ e.symm).2.2.1 rfl), fun j u hj => cell_grown hg (h.2.2.2 j u hj) (fun e => (hr _ e.symm).2.2.2 rfl)⟩
theorem grown_drew {w w' : World} {row : Option Nat} (h : w.drew.grownBy w' row) : w.grownBy w' row := ⟨h.os, h.tape, h.output, h.size, h.block⟩
theorem below_undrew {w w' : World} (h : Below w.drew.heap.size w.drew w') : Below w.heap.size w w' := ⟨h.os, h.tape, h.output, h.size, h.block⟩

set_option maxRecDepth 100000 in
set_option maxHeartbeats 2000000 in
theorem Take1_calls (bp ip g base : Nat) (i : Int) (v : Value) (xs : List S32) (w : World) (ok : Nat → Prop) (hbp : w.heap[bp]? = some (.cells #[.pointer (some ⟨g, 0, none⟩)] 24 (0, 0))) (hip : w.heap[ip]? = some (.cells #[.int .i64 i] 3 (0, 0))) (hg : w.heap[g]? = some (.cells #[v] 60 (0, 0)))
    (hN : Kd.N k32 32 w base ok v xs) (h0 : 0 ≤ i) (hi : i < xs.length) (hfit : ∀ x ∈ xs, Fits x) (hok : ∀ k, ok k → k ≠ g) (hfresh : ∀ k, w.heap.size ≤ k → ok k) (hbg : base ≤ g) (hl : xs.length * 152 ≤ 140737488355328) :
    Calls Try.prog 23 #[.pointer (some ⟨bp, 0, none⟩), .pointer (some ⟨ip, 0, none⟩)] w fun e w' => ∃ c' v', e = .returned (.tuple #[.agg c'.toArray, .int .i64 0]) ∧ Kd.FK k32 w' (fun k => w.heap.size ≤ k) (xs.getD i.toNat z32) c' ∧ w'.heap[g]? = some (.cells #[v'] 60 (0, 0)) ∧ Kd.N k32 32 w' base ok v' (xs.eraseIdx i.toNat) ∧ (∀ k, v'.ownBlock = some k → w.heap.size ≤ k) ∧ KeepBut w w' g none ∧ Below base w w' := by
  obtain ⟨gA, cap, rfl, hgb, hgl, _⟩ := Kd.N_form hN (by omega)
  obtain ⟨cs, hcl, hFK, hcc, _⟩ := Kd.N_elem hN z32 i h0 hi
  have hx : Fits (xs.getD i.toNat z32) := hfit _ (by rw [List.getD_eq_getElem?_getD, List.getElem?_eq_getElem (by omega)]; exact List.getElem_mem _)
  generalize xs.getD i.toNat z32 = x at hFK hx ⊢
  have hS : St bp ip g gA i (.slice (some ⟨gA, 0, none⟩) xs.length cap) cs w := ⟨(blk_cell hbp 0).trans rfl, (blk_cell hip 0).trans rfl, (blk_cell hg 0).trans rfl, fun j u hu => hcc j u hu⟩
  have hsz : (Try.prog.info? 32).map (·.size) = some cs.length := by rw [show cs.length = 14 from hcl]; exact size32
  have HBP := Lib.hid (blk_lt hbp)
  have HIP := Lib.hid (blk_lt hip)
  have HG0 := Lib.hid hg
  have HGA := Lib.hid hgl
  have HS := Lib.hid hS
  have HSZ := Lib.hid hsz
  have HCL := Lib.hid (show cs.length = 14 from hcl)
  have HOK := Lib.hid hok
  have HFR := Lib.hid hfresh
  have HBG := Lib.hid hbg
  have HF0 := Lib.hid hFK
  have HFN := Lib.hid (Kd.F_bound (Kd.N_F hN))
  have HL := Lib.hid hl
  have HX := Lib.hid hx
  have HGB := Lib.hid hgb
  clear hN hFK hcc hbp hip hg hfit hcl hx hS hsz hok hfresh hbg hl hgl hgb
  go_enter Try.func23, Try.ntmps23
  go_wp2_with fail
  obtain ⟨W1, hW1⟩ : ∃ W1, w.alloc (.cells zS.cells 32) = W1 := ⟨_, rfl⟩
  have HB1 := Lib.hid (show Below w.heap.size w W1 from hW1 ▸ below_alloc (Below.refl _ _) _)
  have HZ1 := Lib.hid (show W1.heap[w.heap.size]? = some (.cells zS.cells 32 (0, 0)) from hW1 ▸ blk_new w _)
  change Code.wp _ _ _ _ (w.alloc (.cells zS.cells 32))
  have HSW := Lib.hid (show W1.heap.size = w.heap.size + 1 by rw [← hW1]; simp)
  rw [hW1]
  clear hW1
  refine start_ (n := 9) (S := fun w' => St bp ip g gA i (.slice (some ⟨gA, 0, none⟩) xs.length cap) cs w') (ds := [8]) #[false, false, false, false, false, false, false, false, false] (by kernel_rfl) rfl rfl ((HS.out.below HB1.out).below (below_drew1 (Below.refl _ _))) (fun hHeld => ?_)
  refine take_ (i := 0) (N := some 5) (v := ?_) (a' := ?_) #[true, false, false, false, false, false, false, false, false] rfl rfl (by kernel_rfl) (fun _ _ _ h => h) (Or.inl ⟨by rfl, ?_⟩) hHeld ?_ ?_
  rotate_left
  · rintro w' ⟨s0, s1, s2⟩
    go_simp
    with_reducible rfl
  rotate_left
  · simp only [Act.put, List.setIfInBounds_toArray, List.set_cons_zero, List.set_cons_succ, i64_w, i32_w]
    rfl
  refine pure_ (i := 1) (N := some 6) (v := ?_) (a' := ?_) #[true, true, false, false, false, false, false, false, false] rfl rfl (by kernel_rfl) (fun _ _ _ h => h) (Or.inl ⟨by rfl, ?_⟩) ?_ ?_
  rotate_left
  · intro w'
    go_simp
    with_reducible rfl
  rotate_left
  · simp only [Act.put, List.setIfInBounds_toArray, List.set_cons_zero, List.set_cons_succ, i64_w, i32_w]
    rfl
  refine pure_ (i := 2) (N := some 7) (v := ?_) (a' := ?_) #[true, true, true, false, false, false, false, false, false] rfl rfl (by kernel_rfl) (fun _ _ _ h => h) (Or.inl ⟨by rfl, ?_⟩) ?_ ?_
  rotate_left
  · intro w'
    go_simp
    with_reducible rfl
  rotate_left
  · simp only [Act.put, List.setIfInBounds_toArray, List.set_cons_zero, List.set_cons_succ, i64_w, i32_w]
    rfl
  refine take_ (i := 3) (N := some 8) (v := ?_) (a' := ?_) #[true, true, true, true, false, false, false, false, false] rfl rfl (by kernel_rfl) (fun _ _ _ h => h) (Or.inl ⟨by rfl, ?_⟩) hHeld ?_ ?_
  rotate_left
  · rintro w' ⟨s0, s1, s2⟩
    go_simp
    with_reducible rfl
  rotate_left
  · simp only [Act.put, List.setIfInBounds_toArray, List.set_cons_zero, List.set_cons_succ, i64_w, i32_w]
    rfl
  refine take_ (i := 4) (N := some 9) (v := ?_) (a' := ?_) #[true, true, true, true, true, false, false, false, false] rfl rfl (by kernel_rfl) (fun _ _ _ h => h) (Or.inl ⟨by rfl, ?_⟩) hHeld ?_ ?_
  rotate_left
  · rintro w' ⟨s0, s1, s2⟩
    go_simp
    with_reducible rfl
  rotate_left
  · simp only [Act.put, List.setIfInBounds_toArray, List.set_cons_zero, List.set_cons_succ, i64_w, i32_w]
    rfl
  refine pure_ (i := 5) (N := some 10) (v := ?_) (a' := ?_) #[true, true, true, true, true, true, false, false, false] rfl rfl (by kernel_rfl) (fun _ _ _ h => h) (Or.inl ⟨by rfl, ?_⟩) ?_ ?_
  rotate_left
  · intro w'
    go_simp
    with_reducible rfl
  rotate_left
  · simp only [Act.put, List.setIfInBounds_toArray, List.set_cons_zero, List.set_cons_succ, i64_w, i32_w]
    rfl
  refine take_ (i := 6) (N := some 11) (v := .agg cs.toArray) (a' := ?_) #[true, true, true, true, true, true, true, false, false] rfl rfl (by kernel_rfl) (fun _ _ _ h => h) (yieldsIf_load_mid (by rfl) 32 (.tmp 10) rfl gA (i.toNat * 14) rfl cs _ (fun w' h => h.2.2.2) Try.underlying32 rfl HSZ.out) hHeld ?_ ?_
  rotate_left
  · simp only [Act.put, List.setIfInBounds_toArray, List.set_cons_zero, List.set_cons_succ, i64_w, i32_w]
    rfl
  refine one_ (i := 7) (N := some 4) #[true, true, true, true, true, true, true, true, false] rfl rfl (by kernel_rfl) (by decide) (fun K hK => ?_)
  refine box_step (by rfl) (N := 4) rfl (cs := zS.cells) (t := 32) (by go_simp; rfl) ?_
  intro g4 hg4 w2 hz2 hb2
  have HG4 := Lib.hid hg4
  have HZ2 := Lib.hid hz2
  have HB2 := Lib.hid (below_undrew hb2)
  clear hg4 hz2 hb2
  refine hK.out _ _ (hHeld.below ⟨HB2.out.os, HB2.out.tape, HB2.out.output, HB2.out.size, HB2.out.block⟩) (fun hHeld => ?_)
  clear hK K
  refine norm_ (a' := ?_) ?_ ?_
  rotate_left
  · show Act.put _ (some 4) _ = _
    simp only [Act.put, List.setIfInBounds_toArray, List.set_cons_zero, List.set_cons_succ, i64_w, i32_w]
    rfl
  refine last_ (i := 8) (N := none) #[true, true, true, true, true, true, true, true, true] rfl rfl (by kernel_rfl) (by decide) (fun K hK => ?_)
  refine step_store_row (by rfl) rfl 32 (.tmp 4) (.tmp 11) rfl (g := g4) rfl rfl HZ2.out (by rw [List.size_toArray]; exact HSZ.out) (by rw [List.size_toArray]; exact HCL.out.symm) (k32.K_one (Kd.FK_now HF0.out)) ?_
  intro w3 hz3 hg3
  have HZ3 := Lib.hid hz3
  have HG3 := Lib.hid hg3
  clear hz3 hg3
  refine hK.out _ _ ?_
  clear hK K
  refine done_ (by kernel_rfl) ?_
  clear hHeld
  have hs4 : g4 = w.heap.size + 1 := HG4.out.trans HSW.out
  have hw2 : w.heap.size + 2 ≤ w2.heap.size := by have h1 := blk_lt HZ2.out; omega
  have HS4 := Lib.hid hs4
  have HW3 := Lib.hid (show w.heap.size + 2 ≤ w3.heap.size by have := HG3.out.size; omega)
  have HS3 := Lib.hid (St.grown ((HS.out.below HB1.out).below HB2.out) HG3.out (fun b e => by injection e with e; have h1 := HBP.out; have h2 := HIP.out; have h3 := blk_lt HG0.out; have h4 := HGA.out; omega))
  have HK3 := Lib.hid (show Below w.heap.size w w3 from Below.grown (HB1.out.trans (HB2.out.mono (by have := HSW.out; omega))) HG3.out (by omega) (fun k e => by injection e with e; omega))
  have HZ13 := Lib.hid (show w3.heap[w.heap.size]? = some (.cells zS.cells 32 (0, 0)) from (HG3.out.block _ (by omega) (by intro e; injection e with e; omega)).trans (blk_below HZ1.out HB2.out))
  have HGG3 := Lib.hid (blk_below HG0.out HK3.out)
  have C25 := Lib.hid (CloneSend_calls (some ⟨gA, 0, none⟩) cap xs w3.drew _ (fun k => (ok k ∧ k < w.heap.size) ∨ w3.heap.size ≤ k) (Kd.F_drew (Kd.F_below HFN.out HK3.out)) (fun k hk => .inl hk) (fun k hk => .inr hk) HL.out)
  clear hs4 hw2 HS HB1 HB2 HG3 HZ1 HZ2 HG4 HSW HGB
  have hii : IntKind.i64.wrap (i + 1) = i + 1 := by have := HL.out; rw [IntKind.wrap_i64]; omega
  have HII := Lib.hid hii
  clear hii
  go_wp2_with fail
  refine start_ (n := 13) (S := fun w' => St bp ip g gA i (.slice (some ⟨gA, 0, none⟩) xs.length cap) cs w') (ds := [12]) #[false, false, false, false, false, false, false, false, false, false, false, false, false] (by kernel_rfl) rfl rfl (HS3.out.below (below_drew1 (Below.refl _ _))) (fun hHeld => ?_)
  refine take_ (i := 0) (N := some 12) (v := ?_) (a' := ?_) #[true, false, false, false, false, false, false, false, false, false, false, false, false] rfl rfl (by kernel_rfl) (fun _ _ _ h => h) (Or.inl ⟨by rfl, ?_⟩) hHeld ?_ ?_
  rotate_left
  · rintro w' ⟨s0, s1, s2⟩
    go_simp
    with_reducible rfl
  rotate_left
  · simp only [Act.put, List.setIfInBounds_toArray, List.set_cons_zero, List.set_cons_succ, i64_w, i32_w]
    rfl
  refine take_ (i := 1) (N := some 13) (v := ?_) (a' := ?_) #[true, true, false, false, false, false, false, false, false, false, false, false, false] rfl rfl (by kernel_rfl) (fun _ _ _ h => h) (Or.inl ⟨by rfl, ?_⟩) hHeld ?_ ?_
  rotate_left
  · rintro w' ⟨s0, s1, s2⟩
    go_simp
    with_reducible rfl
  rotate_left
  · simp only [Act.put, List.setIfInBounds_toArray, List.set_cons_zero, List.set_cons_succ, i64_w, i32_w]
    rfl
  refine pure_ (i := 2) (N := some 14) (v := ?_) (a' := ?_) #[true, true, true, false, false, false, false, false, false, false, false, false, false] rfl rfl (by kernel_rfl) (fun _ _ _ h => h) (Or.inl ⟨by rfl, ?_⟩) ?_ ?_
  rotate_left
  · intro w'
    go_simp
    with_reducible rfl
  rotate_left
  · simp only [Act.put, List.setIfInBounds_toArray, List.set_cons_zero, List.set_cons_succ, i64_w, i32_w]
    rfl
  refine pure_ (i := 3) (N := some 15) (v := ?_) (a' := ?_) #[true, true, true, true, false, false, false, false, false, false, false, false, false] rfl rfl (by kernel_rfl) (fun _ _ _ h => h) (Or.inl ⟨by rfl, ?_⟩) ?_ ?_
  rotate_left
  · intro w'
    go_simp
    with_reducible rfl
  rotate_left
  · simp only [Act.put, List.setIfInBounds_toArray, List.set_cons_zero, List.set_cons_succ, i64_w, i32_w]
    rfl
  refine take_ (i := 4) (N := some 16) (v := ?_) (a' := ?_) #[true, true, true, true, true, false, false, false, false, false, false, false, false] rfl rfl (by kernel_rfl) (fun _ _ _ h => h) (Or.inl ⟨by rfl, ?_⟩) hHeld ?_ ?_
  rotate_left
  · rintro w' ⟨s0, s1, s2⟩
    go_simp
    with_reducible rfl
  rotate_left
  · simp only [Act.put, List.setIfInBounds_toArray, List.set_cons_zero, List.set_cons_succ, i64_w, i32_w]
    rfl
  refine take_ (i := 6) (N := some 18) (v := ?_) (a' := ?_) #[true, true, true, true, true, false, true, false, false, false, false, false, false] rfl rfl (by kernel_rfl) (fun _ _ _ h => h) (Or.inl ⟨by rfl, ?_⟩) hHeld ?_ ?_
  rotate_left
  · rintro w' ⟨s0, s1, s2⟩
    go_simp
    with_reducible rfl
  rotate_left
  · simp only [Act.put, List.setIfInBounds_toArray, List.set_cons_zero, List.set_cons_succ, i64_w, i32_w]
    rfl
  refine take_ (i := 7) (N := some 19) (v := ?_) (a' := ?_) #[true, true, true, true, true, false, true, true, false, false, false, false, false] rfl rfl (by kernel_rfl) (fun _ _ _ h => h) (Or.inl ⟨by rfl, ?_⟩) hHeld ?_ ?_
  rotate_left
  · rintro w' ⟨s0, s1, s2⟩
    go_simp
    with_reducible rfl
  rotate_left
  · simp only [Act.put, List.setIfInBounds_toArray, List.set_cons_zero, List.set_cons_succ, i64_w, i32_w]
    rfl
  have hii := HII.out
  refine pure_ (i := 8) (N := some 20) (v := ?_) (a' := ?_) #[true, true, true, true, true, false, true, true, true, false, false, false, false] rfl rfl (by kernel_rfl) (fun _ _ _ h => h) (Or.inl ⟨by rfl, ?_⟩) ?_ ?_
  rotate_left
  · intro w'
    go_simp
    with_reducible rfl
  rotate_left
  · simp only [Act.put, List.setIfInBounds_toArray, List.set_cons_zero, List.set_cons_succ, i64_w, i32_w]
    rfl
  clear hii
  refine one_ (i := 5) (N := some 17) #[true, true, true, true, true, true, true, true, true, false, false, false, false] rfl rfl (by kernel_rfl) (by decide) (fun K hK => ?_)
  refine goes_ Try.func25 (by kernel_rfl) rfl #[.slice (some ⟨gA, 0, none⟩) xs.length cap] (by rfl) rfl rfl (by simp only [List.map_toArray, List.map_cons, List.map_nil]; rfl) ?_
  refine C25.out.mono ?_
  rintro e w4 ⟨v1, rfl, hn1, hb4⟩
  refine ⟨_, rfl, ?_⟩
  obtain ⟨g1, cap1, rfl, hg1b, hg1l, _⟩ := Kd.N_form hn1 (by omega)
  have HN1 := Lib.hid hn1
  have HB4 := Lib.hid (below_undrew hb4)
  have HG1 := Lib.hid (show w3.heap.size ≤ g1 from hg1b)
  have C24 := Lib.hid (Delete_calls g1 cap1 xs i w4 w3.heap.size _ hn1 h0 hi hb4.size)
  clear hn1 hb4 hg1b hg1l
  refine hK.out _ _ (HS3.out.below HB4.out) (fun hHeld => ?_)
  clear hK K
  refine norm_ (a' := ?_) ?_ ?_
  rotate_left
  · show Act.put _ (some 17) _ = _
    simp only [Act.put, List.setIfInBounds_toArray, List.set_cons_zero, List.set_cons_succ, i64_w, i32_w]
    rfl
  refine one_ (i := 9) (N := some 21) #[true, true, true, true, true, true, true, true, true, true, false, false, false] rfl rfl (by kernel_rfl) (by decide) (fun K hK => ?_)
  refine goes_ Try.func24 (by kernel_rfl) rfl #[.slice (some ⟨g1, 0, none⟩) xs.length cap1, .int .i64 i, .int .i64 (i + 1)] (by rfl) rfl rfl (by simp only [List.map_toArray, List.map_cons, List.map_nil]; rfl) ?_
  refine C24.out.mono ?_
  rintro e w5 ⟨n5, rfl, hn5, hg5⟩
  refine ⟨_, rfl, ?_⟩
  have HN5 := Lib.hid hn5
  have HG5 := Lib.hid hg5
  clear hn5 hg5
  refine hK.out _ _ ((HS3.out.below HB4.out).grown HG5.out (fun b e => by injection e with e; have h0 := HW3.out; have h1 := HBP.out; have h2 := HIP.out; have h3 := blk_lt HG0.out; have h4 := HGA.out; have h5 := HG1.out; omega)) (fun hHeld => ?_)
  clear hK K
  refine norm_ (a' := ?_) ?_ ?_
  rotate_left
  · show Act.put _ (some 21) _ = _
    simp only [Act.put, List.setIfInBounds_toArray, List.set_cons_zero, List.set_cons_succ, i64_w, i32_w]
    rfl
  refine pure_ (i := 10) (N := some 22) (v := ?_) (a' := ?_) #[true, true, true, true, true, true, true, true, true, true, true, false, false] rfl rfl (by kernel_rfl) (fun _ _ _ h => h) (Or.inl ⟨by rfl, ?_⟩) ?_ ?_
  rotate_left
  · intro w'
    go_simp
    with_reducible rfl
  rotate_left
  · simp only [Act.put, List.setIfInBounds_toArray, List.set_cons_zero, List.set_cons_succ, i64_w, i32_w]
    rfl
  refine pure_ (i := 11) (N := some 23) (v := ?_) (a' := ?_) #[true, true, true, true, true, true, true, true, true, true, true, true, false] rfl rfl (by kernel_rfl) (fun _ _ _ h => h) (Or.inl ⟨by rfl, ?_⟩) ?_ ?_
  rotate_left
  · intro w'
    go_simp
    with_reducible rfl
  rotate_left
  · simp only [Act.put, List.setIfInBounds_toArray, List.set_cons_zero, List.set_cons_succ, i64_w, i32_w]
    rfl
  refine last_ (i := 12) (N := none) #[true, true, true, true, true, true, true, true, true, true, true, true, true] rfl rfl (by kernel_rfl) (by decide) (fun K hK => ?_)
  have hgg5 : w5.heap[g]? = some (.cells #[.slice (some ⟨gA, 0, none⟩) xs.length cap] 60 (0, 0)) := blk_grown (blk_below HGG3.out HB4.out) HG5.out (by intro e; injection e with e; have h3 := blk_lt HG0.out; have h0 := HW3.out; have h5 := HG1.out; omega)
  have hc5 : w5.cell? ⟨g, 0, none⟩ = some (.slice (some ⟨gA, 0, none⟩) xs.length cap) := (blk_cell hgg5 0).trans rfl
  have hf5 := blk_frozen hgg5 0
  have HGG5 := Lib.hid hgg5
  clear hgg5
  refine skip_ (w1 := w5.setCell ⟨g, 0, none⟩ (.slice (some ⟨g1, 0, none⟩) n5 cap1)) (by rfl) rfl (by go_simp) ?_
  clear hc5 hf5
  refine hK.out _ _ ?_
  clear hK K
  refine done_ (by kernel_rfl) ?_
  clear hHeld
  have hlt : g < w.heap.size := blk_lt HG0.out
  have hg4e := HS4.out
  have hw3 := HW3.out
  have hg1 := HG1.out
  have hg4l : g4 < w3.heap.size := blk_lt HZ3.out
  have hK5 : KeepBut w w5 g none := (((KeepBut.of_below HK3.out g none).trans (KeepBut.of_below HB4.out g none) (.inl rfl)).trans (KeepBut.of_grown HG5.out g) (.inr ⟨g1, rfl, by omega⟩))
  have hB5 : Below base w w5 := Below.grown ((HK3.out.mono (by have := HBG.out; omega)).trans (HB4.out.mono (by have := HBG.out; omega))) HG5.out (by have := HB4.out.size; have := HBG.out; omega) (fun k e => by injection e with e; have := HBG.out; omega)
  have hZ5 : w5.heap[g4]? = some (.cells cs.toArray 32 (0, 0)) := blk_grown (blk_below HZ3.out HB4.out) HG5.out (by intro e; injection e with e; omega)
  have hZ15 : w5.heap[w.heap.size]? = some (.cells zS.cells 32 (0, 0)) := blk_grown (blk_below HZ13.out HB4.out) HG5.out (by intro e; injection e with e; omega)
  have hgg6 : (w5.setCell ⟨g, 0, none⟩ (.slice (some ⟨g1, 0, none⟩) n5 cap1)).heap[g]? = some (.cells #[.slice (some ⟨g1, 0, none⟩) n5 cap1] 60 (0, 0)) := blk_set HGG5.out 0 _
  have hN6 := Kd.N_far (p := ⟨g, 0, none⟩) HN5.out (fun k hk => by show k ≠ g; rcases hk with hk | hk; exact HOK.out k hk.1; omega) (.slice (some ⟨g1, 0, none⟩) n5 cap1)
  have hK6 := hK5.set_ 0 (.slice (some ⟨g1, 0, none⟩) n5 cap1)
  have hB6 := hB5.setCell (p := ⟨g, 0, none⟩) HBG.out (.slice (some ⟨g1, 0, none⟩) n5 cap1)
  have hZ6 := (Below.heap_setCell w5 ⟨g, 0, none⟩ (.slice (some ⟨g1, 0, none⟩) n5 cap1) g4 (by show g4 ≠ g; omega)).trans hZ5
  have hZ16 := (Below.heap_setCell w5 ⟨g, 0, none⟩ (.slice (some ⟨g1, 0, none⟩) n5 cap1) w.heap.size (by show w.heap.size ≠ g; omega)).trans hZ15
  generalize w5.setCell ⟨g, 0, none⟩ (.slice (some ⟨g1, 0, none⟩) n5 cap1) = w6 at hgg6 hN6 hK6 hB6 hZ6 hZ16 ⊢
  have C21 := Lib.hid (own_calls x cs w6 _ (Kd.FK_step HF0.out (fun k hk hkl => hK6.2 k hkl (HOK.out k hk.1) (by simp))) HX.out)
  have HGG6 := Lib.hid hgg6
  have HN6 := Lib.hid hN6
  have HK6 := Lib.hid hK6
  have HB6 := Lib.hid hB6
  have HZ6 := Lib.hid hZ6
  have HZ16 := Lib.hid hZ16
  have HLT := Lib.hid (⟨hlt, hw3, hg1⟩ : g < w.heap.size ∧ w.heap.size + 2 ≤ w3.heap.size ∧ w3.heap.size ≤ g1)
  clear hgg6 hN6 hK6 hB6 hZ6 hZ16 hZ5 hZ15 hB5 hK5 hlt hg4e hw3 hg1 hg4l HN5 HG5 HGG5 C24 HN1 HB4 HG1 C25 HGG3 HK3 HS3 HZ3 HZ13 HS4 HII
  go_wp2_with (first | ((with_reducible refine gate_dst (N := 24) rfl ?_); refine wpList_load_row rfl 32 (.tmp 4) rfl g4 rfl 32 _ (0, 0) _ HZ6.out Try.underlying32 rfl (by rw [List.size_toArray]; exact HSZ.out) ?_) | (go_at_call 21; refine C21.out.mono ?_; rintro e w7 ⟨c', rfl, hfk, hb⟩; have HFK := Lib.hid hfk; have HB7 := Lib.hid hb; clear hfk hb) | (refine wpList_store_row rfl rfl 32 (.tmp 2) (.tmp 25) rfl (g := w.heap.size) rfl rfl (blk_below HZ16.out HB7.out) (by rw [List.size_toArray, k32.K_len (Kd.FK_now HFK.out)]; exact size32) (by rw [List.size_toArray]; exact (k32.K_len (Kd.FK_now HFK.out)).symm) (k32.K_one (Kd.FK_now HFK.out)) ?_; intro w8 hz8 hg8; have HZ8 := Lib.hid hz8; have HG8 := Lib.hid hg8; clear hz8 hg8))
  refine bodyPost_ret (results_ct rfl _ _ w.heap.size 32 _ (0, 0) _ rfl HZ8.out Try.underlying32 rfl (by rw [List.size_toArray, k32.K_len (Kd.FK_now HFK.out)]; exact size32)) rfl ?_
  have hlt := HLT.out
  have h16 := blk_lt HZ16.out
  have hb7 := HB7.out.size
  refine ⟨_, _, rfl, Kd.FK_mono (Kd.FK_grown HFK.out HG8.out (fun k hk e => by injection e with e; omega)) (fun k hk => by omega), blk_grown (blk_below HGG6.out HB7.out) HG8.out (by intro e; injection e with e; omega), ?_, fun k e => by have := Kd.N_base HN6.out k e; omega, ?_, ?_⟩
  · exact Kd.N_lower (Kd.N_mono (Kd.N_grown (Kd.N_below HN6.out HB7.out) HG8.out (fun k hk e => by injection e with e; rcases hk with hk | hk <;> omega)) (fun k hk => by rcases hk with hk | hk; exact hk.1; exact HFR.out k (by omega))) (by have := HBG.out; omega)
  · exact (HK6.out.trans (KeepBut.of_below HB7.out g none) (.inl rfl)).trans (KeepBut.of_grown HG8.out g) (.inr ⟨_, rfl, Nat.le_refl _⟩)
  · exact Below.grown (HB6.out.trans (HB7.out.mono (by have := HBG.out; omega))) HG8.out (by have := HBG.out; omega) (fun k e => by injection e with e; have := HBG.out; omega)
end Go.Proofs.Ytijbpncekdiodaa
