/- The closures of Peek, Take, Copy. -/
import Derived.Test.YtijbpncekdiodaaMc
import Derived.Deep.RegionHeld3
import Derived.Deep.MidRow
import Derived.Deep.DrawnRows
namespace Go.Proofs.Ytijbpncekdiodaa
open Go.RowKit Go.Proofs.YtijbpncekdiodaaW.PrintWords Go.Proofs.YtijbpncekdiodaaW.PrintLast Go.Proofs.YtijbpncekdiodaaW.PrintMore
open Go.Proofs.Ytijbpncekdiodaa.PMailMoves
set_option linter.unusedVariables false
set_option linter.unusedSimpArgs false
attribute [local go_sem ↓] Go.wp_at_zero Go.wp_at_succ

/-- What a closure reads: its box, its place, the slice, the element. -/
def St (bp ip g gA : Nat) (i : Int) (v : Value) (cs : List Value) (w : World) : Prop :=
  w.cell? ⟨bp, 0, none⟩ = some (.pointer (some ⟨g, 0, none⟩)) ∧ w.cell? ⟨ip, 0, none⟩ = some (.int .i64 i) ∧ w.cell? ⟨g, 0, none⟩ = some v ∧ w.rangeAt gA (i.toNat * 14) cs
theorem there_new (w : World) : (w.alloc (.cells zS.cells 32)).there w.heap.size 0 14 := fun j hj => by
  rw [Nat.zero_add]
  refine ⟨?_, blk_frozen (blk_new w _) j⟩
  rw [blk_cell (blk_new w _) j]
  have : zS.cells.size = 14 := rfl
  simp; omega
theorem there_below {w w' : World} {b o n : Nat} (h : w.there b o n) (hb : Below w.heap.size w w') : w'.there b o n := fun j hj => by
  obtain ⟨h1, h2⟩ := h j hj
  obtain ⟨u, hu⟩ := Option.isSome_iff_exists.1 h1
  exact ⟨by rw [pw_cell_below hb hu]; rfl, by rw [← h2]; exact hb.frozen (p := ⟨b, o + j, none⟩) (World.block_lt_of_cell? w _ hu)⟩
theorem rangeAt_below {w w' : World} {b o : Nat} {cs : List Value} (h : w.rangeAt b o cs) (hb : Below w.heap.size w w') : w'.rangeAt b o cs := fun j v hj => pw_cell_below hb (h j v hj)
theorem St.below {bp ip g gA : Nat} {i : Int} {v : Value} {cs : List Value} {w w' : World} (h : St bp ip g gA i v cs w) (hb : Below w.heap.size w w') : St bp ip g gA i v cs w' :=
  ⟨pw_cell_below hb h.1, pw_cell_below hb h.2.1, pw_cell_below hb h.2.2.1, rangeAt_below h.2.2.2 hb⟩

set_option maxRecDepth 100000 in
set_option maxHeartbeats 2000000 in
theorem Peek1_calls (bp ip g base : Nat) (i : Int) (v : Value) (xs : List S32) (w : World) (ok : Nat → Prop) (hbp : w.heap[bp]? = some (.cells #[.pointer (some ⟨g, 0, none⟩)] 24 (0, 0))) (hip : w.heap[ip]? = some (.cells #[.int .i64 i] 3 (0, 0))) (hg : w.heap[g]? = some (.cells #[v] 60 (0, 0)))
    (hN : Kd.N k32 32 w base ok v xs) (h0 : 0 ≤ i) (hi : i < xs.length) (hfit : ∀ x ∈ xs, Fits x) :
    Calls Try.prog 27 #[.pointer (some ⟨bp, 0, none⟩), .pointer (some ⟨ip, 0, none⟩)] w fun e w' => ∃ c', e = .returned (.tuple #[.agg c'.toArray, .int .i64 0]) ∧ Kd.FK k32 w' (fun k => w.heap.size ≤ k) (xs.getD i.toNat z32) c' ∧ Below w.heap.size w w' := by
  obtain ⟨gA, cap, rfl, hgb, hgl, _⟩ := Kd.N_form hN (by omega)
  obtain ⟨cs, hcl, hFK, hcc, _⟩ := Kd.N_elem hN z32 i h0 hi
  have hx : Fits (xs.getD i.toNat z32) := hfit _ (by rw [List.getD_eq_getElem?_getD, List.getElem?_eq_getElem (by omega)]; exact List.getElem_mem _)
  generalize xs.getD i.toNat z32 = x at hFK hx ⊢
  have hS : St bp ip g gA i (.slice (some ⟨gA, 0, none⟩) xs.length cap) cs w := ⟨(blk_cell hbp 0).trans rfl, (blk_cell hip 0).trans rfl, (blk_cell hg 0).trans rfl, fun j u hu => hcc j u hu⟩
  have hsz : (Try.prog.info? 32).map (·.size) = some cs.length := by rw [show cs.length = 14 from hcl]; exact size32
  have C1 := Lib.hid (fun W (hb : Below w.heap.size w W) => own_calls x cs W _ (Kd.FK_below hFK hb) hx)
  have HS := Lib.hid hS
  have HSZ := Lib.hid hsz
  clear hN hFK hcc hbp hip hg hfit hcl hx hS hsz
  go_enter Try.func27, Try.ntmps27
  go_wp2_with fail
  obtain ⟨W1, hW1⟩ : ∃ W1, w.alloc (.cells zS.cells 32) = W1 := ⟨_, rfl⟩
  have HB1 := Lib.hid (show Below w.heap.size w W1 from hW1 ▸ below_alloc (Below.refl _ _) _)
  have HZ1 := Lib.hid (show W1.heap[w.heap.size]? = some (.cells zS.cells 32 (0, 0)) from hW1 ▸ blk_new w _)
  change Code.wp _ _ _ _ (w.alloc (.cells zS.cells 32))
  have HSW := Lib.hid (show W1.heap.size = w.heap.size + 1 by rw [← hW1]; simp)
  rw [hW1]
  clear hW1
  refine start_ (n := 10) (S := fun w' => St bp ip g gA i (.slice (some ⟨gA, 0, none⟩) xs.length cap) cs w') (ds := [8]) #[false, false, false, false, false, false, false, false, false, false] (by kernel_rfl) rfl rfl ((HS.out.below HB1.out).below (below_drew1 (Below.refl _ _))) (fun hHeld => ?_)
  refine take_ (i := 0) (N := some 4) (v := ?_) (a' := ?_) #[true, false, false, false, false, false, false, false, false, false] rfl rfl (by kernel_rfl) (fun _ _ _ h => h) (Or.inl ⟨by rfl, ?_⟩) hHeld ?_ ?_
  rotate_left
  · rintro w' ⟨s0, s1, s2⟩
    go_simp
    with_reducible rfl
  rotate_left
  · simp only [Act.put, List.setIfInBounds_toArray, List.set_cons_zero, List.set_cons_succ, i64_w, i32_w]
    rfl
  refine pure_ (i := 1) (N := some 5) (v := ?_) (a' := ?_) #[true, true, false, false, false, false, false, false, false, false] rfl rfl (by kernel_rfl) (fun _ _ _ h => h) (Or.inl ⟨by rfl, ?_⟩) ?_ ?_
  rotate_left
  · intro w'
    go_simp
    with_reducible rfl
  rotate_left
  · simp only [Act.put, List.setIfInBounds_toArray, List.set_cons_zero, List.set_cons_succ, i64_w, i32_w]
    rfl
  refine pure_ (i := 2) (N := some 6) (v := ?_) (a' := ?_) #[true, true, true, false, false, false, false, false, false, false] rfl rfl (by kernel_rfl) (fun _ _ _ h => h) (Or.inl ⟨by rfl, ?_⟩) ?_ ?_
  rotate_left
  · intro w'
    go_simp
    with_reducible rfl
  rotate_left
  · simp only [Act.put, List.setIfInBounds_toArray, List.set_cons_zero, List.set_cons_succ, i64_w, i32_w]
    rfl
  refine take_ (i := 3) (N := some 7) (v := ?_) (a' := ?_) #[true, true, true, true, false, false, false, false, false, false] rfl rfl (by kernel_rfl) (fun _ _ _ h => h) (Or.inl ⟨by rfl, ?_⟩) hHeld ?_ ?_
  rotate_left
  · rintro w' ⟨s0, s1, s2⟩
    go_simp
    with_reducible rfl
  rotate_left
  · simp only [Act.put, List.setIfInBounds_toArray, List.set_cons_zero, List.set_cons_succ, i64_w, i32_w]
    rfl
  refine take_ (i := 4) (N := some 8) (v := ?_) (a' := ?_) #[true, true, true, true, true, false, false, false, false, false] rfl rfl (by kernel_rfl) (fun _ _ _ h => h) (Or.inl ⟨by rfl, ?_⟩) hHeld ?_ ?_
  rotate_left
  · rintro w' ⟨s0, s1, s2⟩
    go_simp
    with_reducible rfl
  rotate_left
  · simp only [Act.put, List.setIfInBounds_toArray, List.set_cons_zero, List.set_cons_succ, i64_w, i32_w]
    rfl
  refine pure_ (i := 5) (N := some 9) (v := ?_) (a' := ?_) #[true, true, true, true, true, true, false, false, false, false] rfl rfl (by kernel_rfl) (fun _ _ _ h => h) (Or.inl ⟨by rfl, ?_⟩) ?_ ?_
  rotate_left
  · intro w'
    go_simp
    with_reducible rfl
  rotate_left
  · simp only [Act.put, List.setIfInBounds_toArray, List.set_cons_zero, List.set_cons_succ, i64_w, i32_w]
    rfl
  refine take_ (i := 6) (N := some 10) (v := .agg cs.toArray) (a' := ?_) #[true, true, true, true, true, true, true, false, false, false] rfl rfl (by kernel_rfl) (fun _ _ _ h => h) (yieldsIf_load_mid (by rfl) 32 (.tmp 9) rfl gA (i.toNat * 14) rfl cs _ (fun w' h => h.2.2.2) Try.underlying32 rfl HSZ.out) hHeld ?_ ?_
  rotate_left
  · simp only [Act.put, List.setIfInBounds_toArray, List.set_cons_zero, List.set_cons_succ, i64_w, i32_w]
    rfl
  refine one_ (i := 7) (N := some 11) #[true, true, true, true, true, true, true, true, false, false] rfl rfl (by kernel_rfl) (by decide) (fun K hK => ?_)
  refine goes_ Try.func21 (by kernel_rfl) rfl #[.agg cs.toArray] (by rfl) rfl rfl (by simp only [List.map_toArray, List.map_cons, List.map_nil]; rfl) ?_
  refine (C1.out _ (below_drew1 HB1.out)).mono ?_
  rintro e w3 ⟨c', rfl, hfk, hb⟩
  refine ⟨_, rfl, ?_⟩
  have HB3 := Lib.hid (show Below W1.heap.size W1 w3 from ⟨hb.os, hb.tape, hb.output, hb.size, hb.block⟩)
  have HFK := Lib.hid hfk
  clear hb hfk
  refine hK.out _ _ (hHeld.below ⟨HB3.out.os, HB3.out.tape, HB3.out.output, HB3.out.size, HB3.out.block⟩) (fun hHeld => ?_)
  clear hK K
  refine norm_ (a' := ?_) ?_ ?_
  rotate_left
  · show Act.put _ (some 11) _ = _
    simp only [Act.put, List.setIfInBounds_toArray, List.set_cons_zero, List.set_cons_succ, i64_w, i32_w]
    rfl
  refine last_ (i := 8) (N := none) #[true, true, true, true, true, true, true, true, true, false] rfl rfl (by kernel_rfl) (by decide) (fun K hK => ?_)
  refine step_store_row (by rfl) rfl 32 (.tmp 2) (.tmp 11) rfl (g := w.heap.size) rfl rfl (blk_below HZ1.out HB3.out) (by rw [List.size_toArray, k32.K_len (Kd.FK_now HFK.out)]; exact size32) (by rw [List.size_toArray]; exact (k32.K_len (Kd.FK_now HFK.out)).symm) (k32.K_one (Kd.FK_now HFK.out)) ?_
  intro w4 hz4 hg4
  have HZ4 := Lib.hid hz4
  have HG4 := Lib.hid hg4
  clear hz4 hg4
  refine hK.out _ _ ?_
  clear hK K
  refine pure_ (i := 9) (N := some 3) (v := ?_) (a' := ?_) #[true, true, true, true, true, true, true, true, true, true] rfl rfl (by kernel_rfl) (fun _ _ _ h => h) (Or.inl ⟨by rfl, ?_⟩) ?_ ?_
  rotate_left
  · intro w'
    go_simp
    with_reducible rfl
  rotate_left
  · simp only [Act.put, List.setIfInBounds_toArray, List.set_cons_zero, List.set_cons_succ, i64_w, i32_w]
    rfl
  refine done_ (by kernel_rfl) ?_
  go_wp2_with fail
  refine bodyPost_ret (results_ct rfl _ _ w.heap.size 32 _ (0, 0) _ rfl HZ4.out Try.underlying32 rfl (by rw [List.size_toArray, k32.K_len (Kd.FK_now HFK.out)]; exact size32)) rfl ?_
  refine ⟨_, rfl, ?_, ?_⟩
  · exact Kd.FK_mono (Kd.FK_grown HFK.out HG4.out (fun k hk e => by injection e with e; have hk : W1.heap.size ≤ k := hk; have := HSW.out; omega)) (fun k hk => by have hk : W1.heap.size ≤ k := hk; have := HSW.out; omega)
  · exact Below.grown (HB1.out.trans (HB3.out.mono (by have := HSW.out; omega))) HG4.out (by have := HB3.out.size; have := HSW.out; omega) (fun k e => by injection e with e; omega)
end Go.Proofs.Ytijbpncekdiodaa
