/- own and Peek once more: what is handed back is one's own. Laid by gen_mm.py. -/
import Derived.Test.YtijbpncekdiodaaMh
namespace Go.Proofs.Ytijbpncekdiodaa
open Go.RowKit Go.Proofs.YtijbpncekdiodaaW.PrintWords Go.Proofs.YtijbpncekdiodaaW.PrintLast Go.Proofs.YtijbpncekdiodaaW.PrintMore
open Go.Proofs.Ytijbpncekdiodaa.PMailMoves
set_option linter.unusedVariables false
set_option linter.unusedSimpArgs false
attribute [local go_sem ↓] Go.wp_at_zero Go.wp_at_succ

/-- A send whose variables are one's own, from block lo on. -/
def PM (W : World) (lo : Nat) (x : S32) (c : List Value) : Prop := k32.M W lo (fun k => lo ≤ k) x c
section
variable {W W1 : World} {lo lo' b : Nat} {x : S32} {c : List Value}
theorem PM.lower (h : PM W lo x c) (hl : lo' ≤ lo) : PM W lo' x c := k32.M_mono (fun k hk => Nat.le_trans hl hk) (k32.M_lower hl h)
theorem PM.grown (h : PM W lo x c) (hg : W.grownBy W1 (some b)) (hb : b < lo) : PM W1 lo x c := Kd.M_grown h hg (fun k hk e => by injection e with e; omega)
theorem PM.below (h : PM W lo x c) (hb : Below W.heap.size W W1) : PM W1 lo x c := Kd.M_below h hb
theorem PM.now (h : PM W lo x c) : k32.K W x c := k32.K_of_M h
end
set_option maxRecDepth 100000 in
set_option maxHeartbeats 2000000 in
theorem own_callsM (x : S32) (c : List Value) (w : World) (okx : Nat → Prop) (h : Kd.FK k32 w okx x c) (hx : Fits x) :
    Calls Try.prog 21 #[.agg c.toArray] w fun e w' => ∃ c', e = .returned (.agg c'.toArray) ∧ PM w' w.heap.size x c' ∧ Below w.heap.size w w' := by
  obtain ⟨A, cc, rfl, hle, hC⟩ := k32_open (Kd.FK_now h)
  have C1 := Lib.hid (fun W (hb : Below w.heap.size w W) => CloneVar_calls A cc x.f1.f12 W (Kd.C_below hC hb) hx)
  clear h hx hC hle
  go_enter Try.func21, Try.ntmps21
  go_wp2_with (first | (go_at_call 31; refine (C1.out _ (below_alloc (below_alloc (Below.refl _ _) _) _)).mono ?_; rintro e w3 ⟨v, rfl, hr, hb⟩; obtain ⟨A', c', rfl⟩ := Kd.R_slice hr; have hA0 : w3.heap[w.heap.size]? = some (.cells #[.int .i64 x.f0, .int .i64 x.f1.f0, .int .i64 x.f1.f1, .int .u64 x.f1.f2, .int .i64 x.f1.f3, .int .u64 x.f1.f4, .int .u64 x.f1.f5, .int .u64 x.f1.f6, .int .i64 x.f1.f7, .int .i64 x.f1.f8, .string x.f1.f9, .string x.f1.f10, .string x.f1.f11, .slice A x.f1.f12.length cc] 32 (0, 0)) := blk_below (blk_alloc (blk_new w _) _) hb; have hZ0 : w3.heap[w.heap.size + 1]? = some (.cells #[.int .i64 0, .int .i64 0, .int .i64 0, .int .u64 0, .int .i64 0, .int .u64 0, .int .u64 0, .int .u64 0, .int .i64 0, .int .i64 0, .string ⟨#[]⟩, .string ⟨#[]⟩, .string ⟨#[]⟩, .slice none 0 0] 32 (0, 0)) := blk_below (heap_alloc2_new w _ _) hb; have HB := Lib.hid (below_then (below_alloc (below_alloc (Below.refl w.heap.size w) (.cells #[.int .i64 x.f0, .int .i64 x.f1.f0, .int .i64 x.f1.f1, .int .u64 x.f1.f2, .int .i64 x.f1.f3, .int .u64 x.f1.f4, .int .u64 x.f1.f5, .int .u64 x.f1.f6, .int .i64 x.f1.f7, .int .i64 x.f1.f8, .string x.f1.f9, .string x.f1.f10, .string x.f1.f11, .slice A x.f1.f12.length cc] 32)) (.cells #[.int .i64 0, .int .i64 0, .int .i64 0, .int .u64 0, .int .i64 0, .int .u64 0, .int .u64 0, .int .u64 0, .int .i64 0, .int .i64 0, .string ⟨#[]⟩, .string ⟨#[]⟩, .string ⟨#[]⟩, .slice none 0 0] 32)) (by simp; omega) hb); have HR := Lib.hid hr; have i13 := blk_cell hA0 13; have f13 := blk_frozen hA0 13; have HA := Lib.hid (show (w3.setCell ⟨w.heap.size, 13, none⟩ (.slice A' x.f1.f12.length c')).heap[w.heap.size]? = some (.cells #[.int .i64 x.f0, .int .i64 x.f1.f0, .int .i64 x.f1.f1, .int .u64 x.f1.f2, .int .i64 x.f1.f3, .int .u64 x.f1.f4, .int .u64 x.f1.f5, .int .u64 x.f1.f6, .int .i64 x.f1.f7, .int .i64 x.f1.f8, .string x.f1.f9, .string x.f1.f10, .string x.f1.f11, .slice A' x.f1.f12.length c'] 32 (0, 0)) from blk_set hA0 13 _); have HZ := Lib.hid ((Below.heap_setCell w3 ⟨w.heap.size, 13, none⟩ (.slice A' x.f1.f12.length c') (w.heap.size + 1) (by simp)).trans hZ0); clear hr hb hA0 hZ0) | ((with_reducible refine gate_dst (N := 9) rfl ?_); refine wpList_load_row rfl 32 (.tmp 1) rfl w.heap.size rfl 32 _ (0, 0) _ HA.out Try.underlying32 rfl (by kernel_rfl) ?_) | (refine wpList_store_row rfl rfl 32 (.tmp 2) (.tmp 9) rfl rfl rfl HZ.out (by kernel_rfl) rfl (one14 rfl) ?_; intro w4 hA4 hg4; have HA4 := Lib.hid hA4; have HG4 := Lib.hid hg4; clear hA4 hg4))
  have hMs := HR.out
  refine bodyPost_ret (results_cell_row rfl _ _ (w.heap.size + 1) 32 _ (0, 0) _ rfl HA4.out Try.underlying32 rfl (by kernel_rfl)) rfl ?_
  refine ⟨_, rfl, ?_, ?_⟩
  · have h1 := Kd.R_mono (ok' := fun k => w.heap.size + 2 ≤ k) (Kd.R_bound hMs) (fun k hk => by have := hk.2.1; simp only [World.size_alloc] at this; omega)
    have h2 := Kd.R_far (p := ⟨w.heap.size, 13, none⟩) h1 (fun k hk => by show k ≠ w.heap.size; omega) (.slice A' x.f1.f12.length c')
    have h3 := Kd.R_grown h2 HG4.out (fun k hk e => by injection e with e; omega)
    exact k32.M_mono (fun k hk => by omega) (k32.M_lower (by simp; omega) (k32_mkM w4 _ _ x h3))
  · exact Below.grown (HB.out.setCell (p := ⟨w.heap.size, 13, none⟩) (Nat.le_refl _) _) HG4.out (by have := HB.out.size; simpa using this) (fun k e => by injection e with e; omega)
set_option maxRecDepth 100000 in
set_option maxHeartbeats 2000000 in
theorem Peek1_callsM (bp ip g base : Nat) (i : Int) (v : Value) (xs : List S32) (w : World) (ok : Nat → Prop) (hbp : w.heap[bp]? = some (.cells #[.pointer (some ⟨g, 0, none⟩)] 24 (0, 0))) (hip : w.heap[ip]? = some (.cells #[.int .i64 i] 3 (0, 0))) (hg : w.heap[g]? = some (.cells #[v] 60 (0, 0)))
    (hN : Kd.N k32 32 w base ok v xs) (h0 : 0 ≤ i) (hi : i < xs.length) (hfit : ∀ x ∈ xs, Fits x) :
    Calls Try.prog 27 #[.pointer (some ⟨bp, 0, none⟩), .pointer (some ⟨ip, 0, none⟩)] w fun e w' => ∃ c', e = .returned (.tuple #[.agg c'.toArray, .int .i64 0]) ∧ PM w' w.heap.size (xs.getD i.toNat z32) c' ∧ Below w.heap.size w w' := by
  obtain ⟨gA, cap, rfl, hgb, hgl, _⟩ := Kd.N_form hN (by omega)
  obtain ⟨cs, hcl, hFK, hcc, _⟩ := Kd.N_elem hN z32 i h0 hi
  have hx : Fits (xs.getD i.toNat z32) := hfit _ (by rw [List.getD_eq_getElem?_getD, List.getElem?_eq_getElem (by omega)]; exact List.getElem_mem _)
  generalize xs.getD i.toNat z32 = x at hFK hx ⊢
  have hS : St bp ip g gA i (.slice (some ⟨gA, 0, none⟩) xs.length cap) cs w := ⟨(blk_cell hbp 0).trans rfl, (blk_cell hip 0).trans rfl, (blk_cell hg 0).trans rfl, fun j u hu => hcc j u hu⟩
  have hsz : (Try.prog.info? 32).map (·.size) = some cs.length := by rw [show cs.length = 14 from hcl]; exact size32
  have C1 := Lib.hid (fun W (hb : Below w.heap.size w W) => own_callsM x cs W _ (Kd.FK_below hFK hb) hx)
  have HS := Lib.hid hS
  have HSZ := Lib.hid hsz
  clear hN hFK hcc hbp hip hg hfit hcl hx hS hsz
  go_enter Try.func27, Try.ntmps27
  go_wp2_with fail
  obtain ⟨W1, hW1⟩ : ∃ W1, w.alloc (.cells zS.cells 32) = W1 := ⟨_, rfl⟩
  have HB1 := Lib.hid (show Below w.heap.size w W1 from hW1 ▸ below_alloc (Below.refl _ _) _)
  have HZ1 := Lib.hid (show W1.heap[w.heap.size]? = some (.cells zS.cells 32 (0, 0)) from hW1 ▸ blk_new w _)
  change Code.wp _ _ _ _ (w.alloc (.cells zS.cells 32))
  have HSW := Lib.hid (show W1.heap.size = w.heap.size + 1 by rw [← hW1]; simp)
  rw [hW1]
  clear hW1
  refine start_ (n := 10) (S := fun w' => St bp ip g gA i (.slice (some ⟨gA, 0, none⟩) xs.length cap) cs w') (ds := [8]) #[false, false, false, false, false, false, false, false, false, false] (by kernel_rfl) rfl rfl ((HS.out.below HB1.out).below (below_drew1 (Below.refl _ _))) (fun hHeld => ?_)
  refine take_ (i := 0) (N := some 4) (v := ?_) (a' := ?_) #[true, false, false, false, false, false, false, false, false, false] rfl rfl (by kernel_rfl) (fun _ _ _ h => h) (Or.inl ⟨by rfl, ?_⟩) hHeld ?_ ?_
  rotate_left
  · rintro w' ⟨s0, s1, s2⟩
    go_simp
    with_reducible rfl
  rotate_left
  · simp only [Act.put, List.setIfInBounds_toArray, List.set_cons_zero, List.set_cons_succ, i64_w, i32_w]
    rfl
  refine pure_ (i := 1) (N := some 5) (v := ?_) (a' := ?_) #[true, true, false, false, false, false, false, false, false, false] rfl rfl (by kernel_rfl) (fun _ _ _ h => h) (Or.inl ⟨by rfl, ?_⟩) ?_ ?_
  rotate_left
  · intro w'
    go_simp
    with_reducible rfl
  rotate_left
  · simp only [Act.put, List.setIfInBounds_toArray, List.set_cons_zero, List.set_cons_succ, i64_w, i32_w]
    rfl
  refine pure_ (i := 2) (N := some 6) (v := ?_) (a' := ?_) #[true, true, true, false, false, false, false, false, false, false] rfl rfl (by kernel_rfl) (fun _ _ _ h => h) (Or.inl ⟨by rfl, ?_⟩) ?_ ?_
  rotate_left
  · intro w'
    go_simp
    with_reducible rfl
  rotate_left
  · simp only [Act.put, List.setIfInBounds_toArray, List.set_cons_zero, List.set_cons_succ, i64_w, i32_w]
    rfl
  refine take_ (i := 3) (N := some 7) (v := ?_) (a' := ?_) #[true, true, true, true, false, false, false, false, false, false] rfl rfl (by kernel_rfl) (fun _ _ _ h => h) (Or.inl ⟨by rfl, ?_⟩) hHeld ?_ ?_
  rotate_left
  · rintro w' ⟨s0, s1, s2⟩
    go_simp
    with_reducible rfl
  rotate_left
  · simp only [Act.put, List.setIfInBounds_toArray, List.set_cons_zero, List.set_cons_succ, i64_w, i32_w]
    rfl
  refine take_ (i := 4) (N := some 8) (v := ?_) (a' := ?_) #[true, true, true, true, true, false, false, false, false, false] rfl rfl (by kernel_rfl) (fun _ _ _ h => h) (Or.inl ⟨by rfl, ?_⟩) hHeld ?_ ?_
  rotate_left
  · rintro w' ⟨s0, s1, s2⟩
    go_simp
    with_reducible rfl
  rotate_left
  · simp only [Act.put, List.setIfInBounds_toArray, List.set_cons_zero, List.set_cons_succ, i64_w, i32_w]
    rfl
  refine pure_ (i := 5) (N := some 9) (v := ?_) (a' := ?_) #[true, true, true, true, true, true, false, false, false, false] rfl rfl (by kernel_rfl) (fun _ _ _ h => h) (Or.inl ⟨by rfl, ?_⟩) ?_ ?_
  rotate_left
  · intro w'
    go_simp
    with_reducible rfl
  rotate_left
  · simp only [Act.put, List.setIfInBounds_toArray, List.set_cons_zero, List.set_cons_succ, i64_w, i32_w]
    rfl
  refine take_ (i := 6) (N := some 10) (v := .agg cs.toArray) (a' := ?_) #[true, true, true, true, true, true, true, false, false, false] rfl rfl (by kernel_rfl) (fun _ _ _ h => h) (yieldsIf_load_mid (by rfl) 32 (.tmp 9) rfl gA (i.toNat * 14) rfl cs _ (fun w' h => h.2.2.2) Try.underlying32 rfl HSZ.out) hHeld ?_ ?_
  rotate_left
  · simp only [Act.put, List.setIfInBounds_toArray, List.set_cons_zero, List.set_cons_succ, i64_w, i32_w]
    rfl
  refine one_ (i := 7) (N := some 11) #[true, true, true, true, true, true, true, true, false, false] rfl rfl (by kernel_rfl) (by decide) (fun K hK => ?_)
  refine goes_ Try.func21 (by kernel_rfl) rfl #[.agg cs.toArray] (by rfl) rfl rfl (by simp only [List.map_toArray, List.map_cons, List.map_nil]; rfl) ?_
  refine (C1.out _ (below_drew1 HB1.out)).mono ?_
  rintro e w3 ⟨c', rfl, hfk, hb⟩
  refine ⟨_, rfl, ?_⟩
  have HB3 := Lib.hid (show Below W1.heap.size W1 w3 from ⟨hb.os, hb.tape, hb.output, hb.size, hb.block⟩)
  have HFK := Lib.hid hfk
  clear hb hfk
  refine hK.out _ _ (hHeld.below ⟨HB3.out.os, HB3.out.tape, HB3.out.output, HB3.out.size, HB3.out.block⟩) (fun hHeld => ?_)
  clear hK K
  refine norm_ (a' := ?_) ?_ ?_
  rotate_left
  · show Act.put _ (some 11) _ = _
    simp only [Act.put, List.setIfInBounds_toArray, List.set_cons_zero, List.set_cons_succ, i64_w, i32_w]
    rfl
  refine last_ (i := 8) (N := none) #[true, true, true, true, true, true, true, true, true, false] rfl rfl (by kernel_rfl) (by decide) (fun K hK => ?_)
  refine step_store_row (by rfl) rfl 32 (.tmp 2) (.tmp 11) rfl (g := w.heap.size) rfl rfl (blk_below HZ1.out HB3.out) (by rw [List.size_toArray, k32.K_len (PM.now HFK.out)]; exact size32) (by rw [List.size_toArray]; exact (k32.K_len (PM.now HFK.out)).symm) (k32.K_one (PM.now HFK.out)) ?_
  intro w4 hz4 hg4
  have HZ4 := Lib.hid hz4
  have HG4 := Lib.hid hg4
  clear hz4 hg4
  refine hK.out _ _ ?_
  clear hK K
  refine pure_ (i := 9) (N := some 3) (v := ?_) (a' := ?_) #[true, true, true, true, true, true, true, true, true, true] rfl rfl (by kernel_rfl) (fun _ _ _ h => h) (Or.inl ⟨by rfl, ?_⟩) ?_ ?_
  rotate_left
  · intro w'
    go_simp
    with_reducible rfl
  rotate_left
  · simp only [Act.put, List.setIfInBounds_toArray, List.set_cons_zero, List.set_cons_succ, i64_w, i32_w]
    rfl
  refine done_ (by kernel_rfl) ?_
  go_wp2_with fail
  refine bodyPost_ret (results_ct rfl _ _ w.heap.size 32 _ (0, 0) _ rfl HZ4.out Try.underlying32 rfl (by rw [List.size_toArray, k32.K_len (PM.now HFK.out)]; exact size32)) rfl ?_
  refine ⟨_, rfl, ?_, ?_⟩
  · exact PM.lower (PM.grown (lo := W1.heap.size) HFK.out HG4.out (by have := HSW.out; omega)) (by have := HSW.out; omega)
  · exact Below.grown (HB1.out.trans (HB3.out.mono (by have := HSW.out; omega))) HG4.out (by have := HB3.out.size; have := HSW.out; omega) (fun k e => by injection e with e; omega)
set_option maxRecDepth 100000 in
set_option maxHeartbeats 2000000 in
theorem Peek_inM (g base : Nat) (i : Int) (xs : List S32) (w : World) (ok : Nat → Prop) (v : Value) (hbox : BoxV w g base ok v xs) (hfresh : ∀ k, w.heap.size ≤ k → ok k) (h0 : 0 ≤ i) (hi : i < xs.length) (hfit : ∀ x ∈ xs, Fits x) (hl : xs.length * 152 ≤ 140737488355328) :
    Calls Try.prog 14 #[.pointer (some ⟨g, 0, none⟩), .int .i64 i] w fun e w' => ∃ c', e = .returned (.tuple #[.agg c'.toArray, .int .i64 0]) ∧ PM w' w.heap.size (xs.getD i.toNat z32) c' ∧ Below w.heap.size w w' := by
  have hlt := hbox.lt
  have hb3 : Below w.heap.size w (((w.alloc (.cells #[.pointer (some ⟨g, 0, none⟩)] 24)).alloc (.cells #[.int .i64 i] 3)).alloc (.cells #[.int .i64 0, .int .i64 0, .int .i64 0, .int .u64 0, .int .i64 0, .int .u64 0, .int .u64 0, .int .u64 0, .int .i64 0, .int .i64 0, .string ⟨#[]⟩, .string ⟨#[]⟩, .string ⟨#[]⟩, .slice none 0 0] 32)) := below_alloc (below_alloc (below_alloc (Below.refl _ _) _) _) _
  have hp3 : (((w.alloc (.cells #[.pointer (some ⟨g, 0, none⟩)] 24)).alloc (.cells #[.int .i64 i] 3)).alloc (.cells #[.int .i64 0, .int .i64 0, .int .i64 0, .int .u64 0, .int .i64 0, .int .u64 0, .int .u64 0, .int .u64 0, .int .i64 0, .int .i64 0, .string ⟨#[]⟩, .string ⟨#[]⟩, .string ⟨#[]⟩, .slice none 0 0] 32)).heap[w.heap.size]? = some (.cells #[.pointer (some ⟨g, 0, none⟩)] 24 (0, 0)) := blk_alloc (blk_alloc (blk_new w _) _) _
  have hq3 : (((w.alloc (.cells #[.pointer (some ⟨g, 0, none⟩)] 24)).alloc (.cells #[.int .i64 i] 3)).alloc (.cells #[.int .i64 0, .int .i64 0, .int .i64 0, .int .u64 0, .int .i64 0, .int .u64 0, .int .u64 0, .int .u64 0, .int .i64 0, .int .i64 0, .string ⟨#[]⟩, .string ⟨#[]⟩, .string ⟨#[]⟩, .slice none 0 0] 32)).heap[w.heap.size + 1]? = some (.cells #[.int .i64 i] 3 (0, 0)) := blk_alloc (heap_alloc2_new w _ _) _
  have hz3 : (((w.alloc (.cells #[.pointer (some ⟨g, 0, none⟩)] 24)).alloc (.cells #[.int .i64 i] 3)).alloc (.cells #[.int .i64 0, .int .i64 0, .int .i64 0, .int .u64 0, .int .i64 0, .int .u64 0, .int .u64 0, .int .u64 0, .int .i64 0, .int .i64 0, .string ⟨#[]⟩, .string ⟨#[]⟩, .string ⟨#[]⟩, .slice none 0 0] 32)).heap[w.heap.size + 2]? = some (.cells zS.cells 32 (0, 0)) := by
    have h := blk_new ((w.alloc (.cells #[.pointer (some ⟨g, 0, none⟩)] 24)).alloc (.cells #[.int .i64 i] 3)) (.cells #[.int .i64 0, .int .i64 0, .int .i64 0, .int .u64 0, .int .i64 0, .int .u64 0, .int .u64 0, .int .u64 0, .int .i64 0, .int .i64 0, .string ⟨#[]⟩, .string ⟨#[]⟩, .string ⟨#[]⟩, .slice none 0 0] 32)
    rw [World.size_alloc, World.size_alloc] at h
    exact h
  have hs3 : (((w.alloc (.cells #[.pointer (some ⟨g, 0, none⟩)] 24)).alloc (.cells #[.int .i64 i] 3)).alloc (.cells #[.int .i64 0, .int .i64 0, .int .i64 0, .int .u64 0, .int .i64 0, .int .u64 0, .int .u64 0, .int .u64 0, .int .i64 0, .int .i64 0, .string ⟨#[]⟩, .string ⟨#[]⟩, .string ⟨#[]⟩, .slice none 0 0] 32)).heap.size = w.heap.size + 3 := by simp
  have HD : ∃ A n c, (((w.alloc (.cells #[.pointer (some ⟨g, 0, none⟩)] 24)).alloc (.cells #[.int .i64 i] 3)).alloc (.cells #[.int .i64 0, .int .i64 0, .int .i64 0, .int .u64 0, .int .i64 0, .int .u64 0, .int .u64 0, .int .u64 0, .int .i64 0, .int .i64 0, .string ⟨#[]⟩, .string ⟨#[]⟩, .string ⟨#[]⟩, .slice none 0 0] 32)).heap[g]? = some (.cells #[.slice A n c] 60 (0, 0)) ∧ n = xs.length := by
    obtain ⟨A, c, rfl⟩ := hbox.slice
    exact ⟨A, _, c, blk_below hbox.1 hb3, rfl⟩
  obtain ⟨A, n, c, hg3, rfl⟩ := HD
  have hbx := (hbox.tight (m := w.heap.size + 5) (by omega)).below hb3
  have hdoes := at22_27 g w.heap.size (w.heap.size + 1) i (.int .i64 0) A xs.length c (((w.alloc (.cells #[.pointer (some ⟨g, 0, none⟩)] 24)).alloc (.cells #[.int .i64 i] 3)).alloc (.cells #[.int .i64 0, .int .i64 0, .int .i64 0, .int .u64 0, .int .i64 0, .int .u64 0, .int .u64 0, .int .u64 0, .int .i64 0, .int .i64 0, .string ⟨#[]⟩, .string ⟨#[]⟩, .string ⟨#[]⟩, .slice none 0 0] 32)) (fun c w' => PM w' (w.heap.size + 5) (xs.getD i.toNat z32) c ∧ Below (((w.alloc (.cells #[.pointer (some ⟨g, 0, none⟩)] 24)).alloc (.cells #[.int .i64 i] 3)).alloc (.cells #[.int .i64 0, .int .i64 0, .int .i64 0, .int .u64 0, .int .i64 0, .int .u64 0, .int .u64 0, .int .u64 0, .int .i64 0, .int .i64 0, .string ⟨#[]⟩, .string ⟨#[]⟩, .string ⟨#[]⟩, .slice none 0 0] 32)).heap.size (((w.alloc (.cells #[.pointer (some ⟨g, 0, none⟩)] 24)).alloc (.cells #[.int .i64 i] 3)).alloc (.cells #[.int .i64 0, .int .i64 0, .int .i64 0, .int .u64 0, .int .i64 0, .int .u64 0, .int .u64 0, .int .u64 0, .int .i64 0, .int .i64 0, .string ⟨#[]⟩, .string ⟨#[]⟩, .string ⟨#[]⟩, .slice none 0 0] 32)) w') hg3 h0 hi (by
    intro W hbW hzW hsW
    rw [hs3] at hsW hzW
    have hbxW := hbx.below hbW
    obtain ⟨h1, h2, h3, h4⟩ := hbxW
    refine (Peek1_callsM w.heap.size (w.heap.size + 1) g base i v xs W _ (blk_below hp3 hbW) (blk_below hq3 hbW) h1 h2 h0 hi hfit).mono ?_
    rintro e w' ⟨c', rfl, hfk, hb'⟩
    refine ⟨c', rfl, k32.K_len (PM.now hfk), k32.K_one (PM.now hfk), ?_, PM.lower hfk (by omega), hbW.trans (hb'.mono (by omega))⟩
    rw [hs3]
    exact blk_below hzW hb')
  generalize hW3 : (((w.alloc (.cells #[.pointer (some ⟨g, 0, none⟩)] 24)).alloc (.cells #[.int .i64 i] 3)).alloc (.cells #[.int .i64 0, .int .i64 0, .int .i64 0, .int .u64 0, .int .i64 0, .int .u64 0, .int .u64 0, .int .u64 0, .int .i64 0, .int .i64 0, .string ⟨#[]⟩, .string ⟨#[]⟩, .string ⟨#[]⟩, .slice none 0 0] 32)) = W3 at hb3 hp3 hq3 hz3 hs3 hg3 hbx hdoes
  have HDO := Lib.hid hdoes
  have HW3 := Lib.hid hW3
  have HZ3 := Lib.hid hz3
  have HS3 := Lib.hid hs3
  have HB3 := Lib.hid hb3
  have HBX := Lib.hid hbx
  have HBOX := Lib.hid hbox
  have HLT := Lib.hid hlt
  have HFR := Lib.hid hfresh
  clear hdoes hW3 hz3 hp3 hq3 hs3 hb3 hbx hbox hlt hfresh hg3 hfit hl
  go_enter Try.func14, Try.ntmps14
  go_wp2_with (first | (go_at_call 22; refine (calls_world HW3.out HDO.out).mono ?_; rintro e w6 ⟨c', w5, rfl, hl5, h15, hr5, hg5⟩; have HL5 := Lib.hid hl5; have H15 := Lib.hid h15; have HR5 := Lib.hid hr5; have HG5 := Lib.hid hg5; have HZ6 := Lib.hid (show w6.heap[w.heap.size + 2]? = some (.cells zS.cells 32 (0, 0)) from blk_grown (blk_below HZ3.out hr5.2) hg5 (by intro e; injection e with e; have := HS3.out; omega)); clear hl5 h15 hr5 hg5) | (refine wpList_store_row rfl rfl 32 (.tmp 4) (.tmp 10) rfl (g := w.heap.size + 2) rfl rfl HZ6.out (by rw [List.size_toArray, HL5.out]; exact size32) (by show 14 = c'.toArray.size; rw [List.size_toArray]; exact HL5.out.symm) H15.out ?_; intro w7 hz7 hg7; have HZ7 := Lib.hid hz7; have HG7 := Lib.hid hg7; clear hz7 hg7))
  refine bodyPost_ret (results_ct rfl _ _ (w.heap.size + 2) 32 _ (0, 0) _ rfl HZ7.out Try.underlying32 rfl (by rw [List.size_toArray, HL5.out]; exact size32)) rfl ?_
  have hs := HS3.out
  have hlt := HLT.out
  obtain ⟨hfk, hb5⟩ := HR5.out
  have hsz5 := hb5.size
  refine ⟨_, rfl, ?_, ?_⟩
  · exact PM.lower (PM.grown (PM.grown hfk HG5.out (by omega)) HG7.out (by omega)) (by omega)
  · exact ((HB3.out.trans (hb5.mono (by omega))).grown HG5.out (by omega) (fun k e => by injection e with e; omega)).grown HG7.out (by have := HG5.out.size; omega) (fun k e => by injection e with e; omega)
end Go.Proofs.Ytijbpncekdiodaa
