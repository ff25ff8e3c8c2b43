/- The closure of Copy. Laid by gen_mf.py. -/
import Derived.Test.YtijbpncekdiodaaMe
namespace Go.Proofs.Ytijbpncekdiodaa
open Go.RowKit Go.Proofs.YtijbpncekdiodaaW.PrintWords Go.Proofs.YtijbpncekdiodaaW.PrintLast Go.Proofs.YtijbpncekdiodaaW.PrintMore
open Go.Proofs.Ytijbpncekdiodaa.PMailMoves
set_option linter.unusedVariables false
set_option linter.unusedSimpArgs false
attribute [local go_sem ↓] Go.wp_at_zero Go.wp_at_succ

set_option maxRecDepth 100000 in
set_option maxHeartbeats 2000000 in
theorem Copy1_calls (bp ip g base : Nat) (i : Int) (v : Value) (xs : List S32) (w : World) (ok : Nat → Prop) (hbp : w.heap[bp]? = some (.cells #[.pointer (some ⟨g, 0, none⟩)] 24 (0, 0))) (hip : w.heap[ip]? = some (.cells #[.int .i64 i] 3 (0, 0))) (hg : w.heap[g]? = some (.cells #[v] 60 (0, 0)))
    (hN : Kd.N k32 32 w base ok v xs) (h0 : 0 ≤ i) (hi : i < xs.length) (hfit : ∀ x ∈ xs, Fits x) (hok : ∀ k, ok k → k ≠ g) (hfresh : ∀ k, w.heap.size ≤ k → ok k) (hbg : base ≤ g) (hl : (xs.length + 1) * 152 ≤ 140737488355328) :
    Calls Try.prog 29 #[.pointer (some ⟨bp, 0, none⟩), .pointer (some ⟨ip, 0, none⟩)] w fun e w' => ∃ v', e = .returned (.tuple #[.bool true, .int .i64 0]) ∧ w'.heap[g]? = some (.cells #[v'] 60 (0, 0)) ∧ Kd.N k32 32 w' base ok v' (xs ++ [xs.getD i.toNat z32]) ∧ (∀ k, v'.ownBlock = some k → w.heap.size ≤ k) ∧ KeepBut w w' g none ∧ Below base w w' := by
  obtain ⟨gA, cap, rfl, hgb, hgl, _⟩ := Kd.N_form hN (by omega)
  obtain ⟨cs, hcl, hFK, hcc, _⟩ := Kd.N_elem hN z32 i h0 hi
  have hx : Fits (xs.getD i.toNat z32) := hfit _ (by rw [List.getD_eq_getElem?_getD, List.getElem?_eq_getElem (by omega)]; exact List.getElem_mem _)
  generalize xs.getD i.toNat z32 = x at hFK hx ⊢
  have hS : St bp ip g gA i (.slice (some ⟨gA, 0, none⟩) xs.length cap) cs w := ⟨(blk_cell hbp 0).trans rfl, (blk_cell hip 0).trans rfl, (blk_cell hg 0).trans rfl, fun j u hu => hcc j u hu⟩
  have hsz : (Try.prog.info? 32).map (·.size) = some cs.length := by rw [show cs.length = 14 from hcl]; exact size32
  have HBP := Lib.hid (blk_lt hbp)
  have HIP := Lib.hid (blk_lt hip)
  have HG0 := Lib.hid hg
  have HGA := Lib.hid hgl
  have HS := Lib.hid hS
  have HSZ := Lib.hid hsz
  have HCL := Lib.hid (show cs.length = 14 from hcl)
  have HOK := Lib.hid hok
  have HFR := Lib.hid hfresh
  have HBG := Lib.hid hbg
  have HF0 := Lib.hid hFK
  have HFN := Lib.hid (Kd.F_bound (Kd.N_F hN))
  have HL := Lib.hid hl
  have HX := Lib.hid hx
  have HGB := Lib.hid hgb
  clear hN hFK hcc hbp hip hg hfit hcl hx hS hsz hok hfresh hbg hl hgl hgb
  have C25 := Lib.hid (CloneSend_calls (some ⟨gA, 0, none⟩) cap xs w.drew _ ok (Kd.F_drew HFN.out) (fun k hk => hk.1) (fun k hk => HFR.out k hk) (by have := HL.out; omega))
  go_enter Try.func29, Try.ntmps29
  go_wp2_with fail
  refine start_ (n := 19) (S := fun w' => St bp ip g gA i (.slice (some ⟨gA, 0, none⟩) xs.length cap) cs w') (ds := [18]) #[false, false, false, false, false, false, false, false, false, false, false, false, false, false, false, false, false, false, false] (by kernel_rfl) rfl rfl (HS.out.below (below_drew1 (Below.refl _ _))) (fun hHeld => ?_)
  refine take_ (i := 0) (N := some 4) (v := ?_) (a' := ?_) #[true, false, false, false, false, false, false, false, false, false, false, false, false, false, false, false, false, false, false] rfl rfl (by kernel_rfl) (fun _ _ _ h => h) (Or.inl ⟨by rfl, ?_⟩) hHeld ?_ ?_
  rotate_left
  · rintro w' ⟨s0, s1, s2⟩
    go_simp
    with_reducible rfl
  rotate_left
  · simp only [Act.put, List.setIfInBounds_toArray, List.set_cons_zero, List.set_cons_succ, i64_w, i32_w]
    rfl
  refine take_ (i := 1) (N := some 5) (v := ?_) (a' := ?_) #[true, true, false, false, false, false, false, false, false, false, false, false, false, false, false, false, false, false, false] rfl rfl (by kernel_rfl) (fun _ _ _ h => h) (Or.inl ⟨by rfl, ?_⟩) hHeld ?_ ?_
  rotate_left
  · rintro w' ⟨s0, s1, s2⟩
    go_simp
    with_reducible rfl
  rotate_left
  · simp only [Act.put, List.setIfInBounds_toArray, List.set_cons_zero, List.set_cons_succ, i64_w, i32_w]
    rfl
  refine pure_ (i := 2) (N := some 6) (v := ?_) (a' := ?_) #[true, true, true, false, false, false, false, false, false, false, false, false, false, false, false, false, false, false, false] rfl rfl (by kernel_rfl) (fun _ _ _ h => h) (Or.inl ⟨by rfl, ?_⟩) ?_ ?_
  rotate_left
  · intro w'
    go_simp
    with_reducible rfl
  rotate_left
  · simp only [Act.put, List.setIfInBounds_toArray, List.set_cons_zero, List.set_cons_succ, i64_w, i32_w]
    rfl
  refine pure_ (i := 3) (N := some 7) (v := ?_) (a' := ?_) #[true, true, true, true, false, false, false, false, false, false, false, false, false, false, false, false, false, false, false] rfl rfl (by kernel_rfl) (fun _ _ _ h => h) (Or.inl ⟨by rfl, ?_⟩) ?_ ?_
  rotate_left
  · intro w'
    go_simp
    with_reducible rfl
  rotate_left
  · simp only [Act.put, List.setIfInBounds_toArray, List.set_cons_zero, List.set_cons_succ, i64_w, i32_w]
    rfl
  refine take_ (i := 4) (N := some 8) (v := ?_) (a' := ?_) #[true, true, true, true, true, false, false, false, false, false, false, false, false, false, false, false, false, false, false] rfl rfl (by kernel_rfl) (fun _ _ _ h => h) (Or.inl ⟨by rfl, ?_⟩) hHeld ?_ ?_
  rotate_left
  · rintro w' ⟨s0, s1, s2⟩
    go_simp
    with_reducible rfl
  rotate_left
  · simp only [Act.put, List.setIfInBounds_toArray, List.set_cons_zero, List.set_cons_succ, i64_w, i32_w]
    rfl
  refine take_ (i := 6) (N := some 10) (v := ?_) (a' := ?_) #[true, true, true, true, true, false, true, false, false, false, false, false, false, false, false, false, false, false, false] rfl rfl (by kernel_rfl) (fun _ _ _ h => h) (Or.inl ⟨by rfl, ?_⟩) hHeld ?_ ?_
  rotate_left
  · rintro w' ⟨s0, s1, s2⟩
    go_simp
    with_reducible rfl
  rotate_left
  · simp only [Act.put, List.setIfInBounds_toArray, List.set_cons_zero, List.set_cons_succ, i64_w, i32_w]
    rfl
  refine pure_ (i := 7) (N := some 11) (v := ?_) (a' := ?_) #[true, true, true, true, true, false, true, true, false, false, false, false, false, false, false, false, false, false, false] rfl rfl (by kernel_rfl) (fun _ _ _ h => h) (Or.inl ⟨by rfl, ?_⟩) ?_ ?_
  rotate_left
  · intro w'
    go_simp
    with_reducible rfl
  rotate_left
  · simp only [Act.put, List.setIfInBounds_toArray, List.set_cons_zero, List.set_cons_succ, i64_w, i32_w]
    rfl
  refine pure_ (i := 8) (N := some 12) (v := ?_) (a' := ?_) #[true, true, true, true, true, false, true, true, true, false, false, false, false, false, false, false, false, false, false] rfl rfl (by kernel_rfl) (fun _ _ _ h => h) (Or.inl ⟨by rfl, ?_⟩) ?_ ?_
  rotate_left
  · intro w'
    go_simp
    with_reducible rfl
  rotate_left
  · simp only [Act.put, List.setIfInBounds_toArray, List.set_cons_zero, List.set_cons_succ, i64_w, i32_w]
    rfl
  refine take_ (i := 9) (N := some 13) (v := ?_) (a' := ?_) #[true, true, true, true, true, false, true, true, true, true, false, false, false, false, false, false, false, false, false] rfl rfl (by kernel_rfl) (fun _ _ _ h => h) (Or.inl ⟨by rfl, ?_⟩) hHeld ?_ ?_
  rotate_left
  · rintro w' ⟨s0, s1, s2⟩
    go_simp
    with_reducible rfl
  rotate_left
  · simp only [Act.put, List.setIfInBounds_toArray, List.set_cons_zero, List.set_cons_succ, i64_w, i32_w]
    rfl
  refine take_ (i := 10) (N := some 14) (v := ?_) (a' := ?_) #[true, true, true, true, true, false, true, true, true, true, true, false, false, false, false, false, false, false, false] rfl rfl (by kernel_rfl) (fun _ _ _ h => h) (Or.inl ⟨by rfl, ?_⟩) hHeld ?_ ?_
  rotate_left
  · rintro w' ⟨s0, s1, s2⟩
    go_simp
    with_reducible rfl
  rotate_left
  · simp only [Act.put, List.setIfInBounds_toArray, List.set_cons_zero, List.set_cons_succ, i64_w, i32_w]
    rfl
  refine pure_ (i := 11) (N := some 15) (v := ?_) (a' := ?_) #[true, true, true, true, true, false, true, true, true, true, true, true, false, false, false, false, false, false, false] rfl rfl (by kernel_rfl) (fun _ _ _ h => h) (Or.inl ⟨by rfl, ?_⟩) ?_ ?_
  rotate_left
  · intro w'
    go_simp
    with_reducible rfl
  rotate_left
  · simp only [Act.put, List.setIfInBounds_toArray, List.set_cons_zero, List.set_cons_succ, i64_w, i32_w]
    rfl
  refine take_ (i := 12) (N := some 16) (v := .agg cs.toArray) (a' := ?_) #[true, true, true, true, true, false, true, true, true, true, true, true, true, false, false, false, false, false, false] rfl rfl (by kernel_rfl) (fun _ _ _ h => h) (yieldsIf_load_mid (by rfl) 32 (.tmp 15) rfl gA (i.toNat * 14) rfl cs _ (fun w' h => h.2.2.2) Try.underlying32 rfl HSZ.out) hHeld ?_ ?_
  rotate_left
  · simp only [Act.put, List.setIfInBounds_toArray, List.set_cons_zero, List.set_cons_succ, i64_w, i32_w]
    rfl
  refine one_ (i := 5) (N := some 9) #[true, true, true, true, true, true, true, true, true, true, true, true, true, false, false, false, false, false, false] rfl rfl (by kernel_rfl) (by decide) (fun K hK => ?_)
  refine goes_ Try.func25 (by kernel_rfl) rfl #[.slice (some ⟨gA, 0, none⟩) xs.length cap] (by rfl) rfl rfl (by simp only [List.map_toArray, List.map_cons, List.map_nil]; rfl) ?_
  refine C25.out.mono ?_
  rintro e w4 ⟨v1, rfl, hn1, hb4⟩
  refine ⟨_, rfl, ?_⟩
  obtain ⟨g1, cap1, rfl, hg1b, hg1l, _⟩ := Kd.N_form hn1 (by omega)
  have HN1 := Lib.hid hn1
  have HB4 := Lib.hid (below_undrew hb4)
  have HG1 := Lib.hid (⟨hg1b, hg1l⟩ : w.heap.size ≤ g1 ∧ g1 < w4.heap.size)
  have C21 := Lib.hid (own_calls x cs w4 _ (Kd.FK_below HF0.out HB4.out) HX.out)
  clear hn1 hb4 hg1b hg1l
  refine hK.out _ _ (HS.out.below HB4.out) (fun hHeld => ?_)
  clear hK K
  refine norm_ (a' := ?_) ?_ ?_
  rotate_left
  · show Act.put _ (some 9) _ = _
    simp only [Act.put, List.setIfInBounds_toArray, List.set_cons_zero, List.set_cons_succ, i64_w, i32_w]
    rfl
  refine one_ (i := 13) (N := some 17) #[true, true, true, true, true, true, true, true, true, true, true, true, true, true, false, false, false, false, false] rfl rfl (by kernel_rfl) (by decide) (fun K hK => ?_)
  refine goes_ Try.func21 (by kernel_rfl) rfl #[.agg cs.toArray] (by rfl) rfl rfl (by simp only [List.map_toArray, List.map_cons, List.map_nil]; rfl) ?_
  refine C21.out.mono ?_
  rintro e w5 ⟨c', rfl, hfk, hb5⟩
  refine ⟨_, rfl, ?_⟩
  obtain ⟨A2, c2, rfl, hle2, hC2⟩ := k32_open (Kd.FK_now hfk)
  have HFK := Lib.hid hfk
  have HB5 := Lib.hid hb5
  clear hfk hb5 hle2 hC2
  refine hK.out _ _ ((HS.out.below HB4.out).below HB5.out) (fun hHeld => ?_)
  clear hK K
  refine norm_ (a' := ?_) ?_ ?_
  rotate_left
  · show Act.put _ (some 17) _ = _
    simp only [Act.put, List.setIfInBounds_toArray, List.set_cons_zero, List.set_cons_succ, i64_w, i32_w]
    rfl
  refine one_ (i := 14) (N := some 18) #[true, true, true, true, true, true, true, true, true, true, true, true, true, true, true, false, false, false, false] rfl rfl (by kernel_rfl) (by decide) (fun K hK => ?_)
  refine event_step (v := .slice (some ⟨w5.heap.size, 0, none⟩) 1 1) (w1 := w5.alloc (.cells #[.int .i64 x.f0, .int .i64 x.f1.f0, .int .i64 x.f1.f1, .int .u64 x.f1.f2, .int .i64 x.f1.f3, .int .u64 x.f1.f4, .int .u64 x.f1.f5, .int .u64 x.f1.f6, .int .i64 x.f1.f7, .int .i64 x.f1.f8, .string x.f1.f9, .string x.f1.f10, .string x.f1.f11, .slice A2 x.f1.f12.length c2] 32)) (by rfl) (by first | (go_simp; done) | (go_simp; rfl)) ?_
  refine hK.out _ _ (((HS.out.below HB4.out).below HB5.out).below (below_alloc (Below.refl _ _) _)) (fun hHeld => ?_)
  clear hK K
  refine norm_ (a' := ?_) ?_ ?_
  rotate_left
  · show Act.put _ (some 18) _ = _
    simp only [Act.put, List.setIfInBounds_toArray, List.set_cons_zero, List.set_cons_succ, i64_w, i32_w]
    rfl
  refine one_ (i := 15) (N := some 19) #[true, true, true, true, true, true, true, true, true, true, true, true, true, true, true, true, false, false, false] rfl rfl (by kernel_rfl) (by decide) (fun K hK => ?_)
  refine Kd.N_append_step k32 (w0 := w5) (W := w5) w.heap.size (by rfl) (.tmp 9) (.tmp 18) 22 32 zS 152 (by rfl) Try.underlying22 info32 rfl (by decide) (by decide) (.slice (some ⟨g1, 0, none⟩) xs.length cap1) xs x [.int .i64 x.f0, .int .i64 x.f1.f0, .int .i64 x.f1.f1, .int .u64 x.f1.f2, .int .i64 x.f1.f3, .int .u64 x.f1.f4, .int .u64 x.f1.f5, .int .u64 x.f1.f6, .int .i64 x.f1.f7, .int .i64 x.f1.f8, .string x.f1.f9, .string x.f1.f10, .string x.f1.f11, .slice A2 x.f1.f12.length c2] ok _ (by rfl) (by rfl) HFK.out (fun k hk => ⟨HFR.out k (by have := HB4.out.size; omega), fun e => by have e2 : some k = some g1 := e; injection e2 with e2; have := HG1.out.2; omega⟩) (fun k hk => HFR.out k (by have := HB4.out.size; have := HB5.out.size; omega)) (Kd.N_below HN1.out HB5.out) (Below.refl _ _) (by have := HB4.out.size; have := HB5.out.size; omega) HL.out ?_
  intro v2 w6 hn6 _ hg6 hat6
  obtain ⟨A3, c3, rfl⟩ := Kd.N_slice hn6
  have HN6 := Lib.hid hn6
  have HG6 := Lib.hid (show w5.grownBy w6 (some g1) from hg6)
  clear hn6 hg6 hat6
  refine hK.out _ _ (((HS.out.below HB4.out).below HB5.out).grown HG6.out (fun b e => by injection e with e; have h1 := HBP.out; have h2 := HIP.out; have h3 := blk_lt HG0.out; have h4 := HGA.out; have h5 := HG1.out.1; omega)) (fun hHeld => ?_)
  clear hK K
  refine norm_ (a' := ?_) ?_ ?_
  rotate_left
  · show Act.put _ (some 19) _ = _
    simp only [Act.put, List.setIfInBounds_toArray, List.set_cons_zero, List.set_cons_succ, i64_w, i32_w]
    rfl
  refine pure_ (i := 16) (N := some 20) (v := ?_) (a' := ?_) #[true, true, true, true, true, true, true, true, true, true, true, true, true, true, true, true, true, false, false] rfl rfl (by kernel_rfl) (fun _ _ _ h => h) (Or.inl ⟨by rfl, ?_⟩) ?_ ?_
  rotate_left
  · intro w'
    go_simp
    with_reducible rfl
  rotate_left
  · simp only [Act.put, List.setIfInBounds_toArray, List.set_cons_zero, List.set_cons_succ, i64_w, i32_w]
    rfl
  refine pure_ (i := 17) (N := some 21) (v := ?_) (a' := ?_) #[true, true, true, true, true, true, true, true, true, true, true, true, true, true, true, true, true, true, false] rfl rfl (by kernel_rfl) (fun _ _ _ h => h) (Or.inl ⟨by rfl, ?_⟩) ?_ ?_
  rotate_left
  · intro w'
    go_simp
    with_reducible rfl
  rotate_left
  · simp only [Act.put, List.setIfInBounds_toArray, List.set_cons_zero, List.set_cons_succ, i64_w, i32_w]
    rfl
  refine last_ (i := 18) (N := none) #[true, true, true, true, true, true, true, true, true, true, true, true, true, true, true, true, true, true, true] rfl rfl (by kernel_rfl) (by decide) (fun K hK => ?_)
  have hgg5 : w6.heap[g]? = some (.cells #[.slice (some ⟨gA, 0, none⟩) xs.length cap] 60 (0, 0)) := blk_grown (blk_below (blk_below HG0.out HB4.out) HB5.out) HG6.out (by intro e; injection e with e; have h3 := blk_lt HG0.out; have h5 := HG1.out.1; omega)
  have hc5 : w6.cell? ⟨g, 0, none⟩ = some (.slice (some ⟨gA, 0, none⟩) xs.length cap) := (blk_cell hgg5 0).trans rfl
  have hf5 := blk_frozen hgg5 0
  have HGG5 := Lib.hid hgg5
  clear hgg5
  refine skip_ (w1 := w6.setCell ⟨g, 0, none⟩ (.slice A3 (xs ++ [x]).length c3)) (by rfl) rfl (by go_simp) ?_
  clear hc5 hf5
  refine hK.out _ _ ?_
  clear hK K
  refine done_ (by kernel_rfl) ?_
  clear hHeld
  go_wp2_with fail
  have hlt : g < w.heap.size := blk_lt HG0.out
  have h5 := HG1.out
  go_ret2
  refine ⟨_, rfl, blk_set HGG5.out 0 _, ?_, fun k e => Kd.N_base HN6.out k e, ?_, ?_⟩
  · exact Kd.N_lower (Kd.N_far (p := ⟨g, 0, none⟩) HN6.out HOK.out _) (by have := HBG.out; omega)
  · exact (((KeepBut.of_below HB4.out g none).trans (KeepBut.of_below HB5.out g none) (.inl rfl)).trans (KeepBut.of_grown HG6.out g) (.inr ⟨g1, rfl, h5.1⟩)).set_ 0 _
  · exact (Below.grown ((HB4.out.mono (by have := HBG.out; omega)).trans (HB5.out.mono (by have := HB4.out.size; have := HBG.out; omega))) HG6.out (by have := HB5.out.size; have := HB4.out.size; have := HBG.out; omega) (fun k e => by injection e with e; have := HBG.out; omega)).setCell (p := ⟨g, 0, none⟩) HBG.out _
end Go.Proofs.Ytijbpncekdiodaa
