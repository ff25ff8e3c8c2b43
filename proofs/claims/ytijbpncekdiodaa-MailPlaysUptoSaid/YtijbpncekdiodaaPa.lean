/- The reference's box. Laid by gen_pa.py. -/
import Derived.Test.YtijbpncekdiodaaNc
namespace Go.Proofs.Ytijbpncekdiodaa
open Go.RowKit Go.Proofs.YtijbpncekdiodaaW.PrintWords Go.Proofs.YtijbpncekdiodaaW.PrintLast Go.Proofs.YtijbpncekdiodaaW.PrintMore
open Go.Proofs.Ytijbpncekdiodaa.PMailMoves
set_option linter.unusedVariables false
set_option linter.unusedSimpArgs false
attribute [local go_sem ↓] Go.wp_at_zero Go.wp_at_succ

/-- The reference's box: its slice, what is in it. -/
def RefV (W : World) (r base : Nat) (ok : Nat → Prop) (v : Value) (xs : List S32) : Prop := W.heap[r]? = some (.cells #[v] 48 (0, 0)) ∧ Kd.N k32 32 W base ok v xs ∧ (∀ k, ok k → k ≠ r) ∧ base ≤ r
section
variable {W W' : World} {r base b : Nat} {ok ok' : Nat → Prop} {v : Value} {xs : List S32}
theorem RefV.below (h : RefV W r base ok v xs) (hb : Below W.heap.size W W') : RefV W' r base ok v xs := ⟨blk_below h.1 hb, Kd.N_below h.2.1 hb, h.2.2⟩
theorem RefV.lt (h : RefV W r base ok v xs) : r < W.heap.size := blk_lt h.1
theorem RefV.mono (h : RefV W r base ok v xs) (hok : ∀ k, ok k → ok' k) (hr : ∀ k, ok' k → k ≠ r) : RefV W r base ok' v xs := ⟨h.1, Kd.N_mono h.2.1 hok, hr, h.2.2.2⟩
theorem RefV.bound (h : RefV W r base ok v xs) : RefV W r base (fun k => ok k ∧ k < W.heap.size) v xs := ⟨h.1, Kd.N_bound h.2.1, fun k hk => h.2.2.1 k hk.1, h.2.2.2⟩
theorem RefV.grown (h : RefV W r base ok v xs) (hg : W.grownBy W' (some b)) (hb : ¬ ok b) (hbr : b ≠ r) : RefV W' r base ok v xs :=
  ⟨blk_grown h.1 hg (by intro e; injection e with e; omega), Kd.N_grown h.2.1 hg (fun k hk e => by injection e with e; subst e; exact hb hk), h.2.2⟩
theorem RefV.kept {S : Nat → Prop} (h : RefV W r base ok v xs) (hk : Kept W W' S) (hr : ¬ S r) (hok : ∀ k, ok k → ¬ S k) : RefV W' r base ok v xs :=
  ⟨(hk.2 r h.lt hr).trans h.1, Kd.N_kept h.2.1 hk hok, h.2.2⟩
theorem RefV.slice (h : RefV W r base ok v xs) : ∃ A c, v = .slice A xs.length c := Kd.N_slice h.2.1
end

set_option maxRecDepth 100000 in
set_option maxHeartbeats 2000000 in
theorem RPut_calls (r base : Nat) (A : Option Addr) (c : Nat) (xs l : List S32) (v : Value) (w : World) (ok okl : Nat → Prop) (hbox : RefV w r base ok v xs) (hfresh : ∀ k, w.heap.size ≤ k → ok k) (hF : Kd.F k32 w okl A l.length l) (hsep : ∀ k, okl k → ok k) (hb : base ≤ w.heap.size) (hl : (xs.length + l.length) * 152 ≤ 140737488355328) :
    Calls Try.prog 17 #[.pointer (some ⟨r, 0, none⟩), .slice A l.length c] w fun e w' => e = .returned (.int .i64 (l.length : Int)) ∧ (∃ v', RefV w' r base ok v' (xs ++ l) ∧ ∀ k, v'.ownBlock = some k → w.heap.size ≤ k) ∧ KeepBut w w' r none ∧ Below base w w' := by
  obtain ⟨A0, c0, rfl⟩ := hbox.slice
  have i0 : (w.alloc (.cells #[] 32)).cell? ⟨r, 0, none⟩ = some (.slice A0 xs.length c0) := (blk_cell (blk_alloc hbox.1 _) 0).trans rfl
  have HBOX := Lib.hid hbox
  have HFR := Lib.hid hfresh
  have HFN := Lib.hid (Kd.F_alloc (Kd.F_bound (Kd.N_F hbox.2.1)) (.cells #[] 32))
  have HF0 := Lib.hid hF
  have HSEP := Lib.hid hsep
  have HB := Lib.hid hb
  have HL := Lib.hid hl
  have HE := Lib.hid (Kd.R_N (R_empty k32 32 w w.heap.size ok (Nat.le_refl _) (hfresh _ (Nat.le_refl _))))
  clear hbox hfresh hF hsep hb hl
  go_enter Try.func17, Try.ntmps17
  go_wp2_with (first | ((with_reducible refine gate_builtin (b := .append) (xs := #[.tmp 6, .tmp 10]) rfl ?_); at_builtin; refine Kd.N_append_rows k32 (w0 := w) w.heap.size rfl (.tmp 6) (.tmp 10) 22 32 zS 152 rfl Try.underlying22 info32 rfl (by decide) (by decide) (.slice (some ⟨w.heap.size, 0, none⟩) 0 0) [] xs A0 xs.length c0 ok _ rfl rfl HE.out HFN.out (fun k hk => ⟨hk.1, fun e => by have e2 : some k = some w.heap.size := e; injection e2 with e2; have := hk.2; omega⟩) (fun k hk => HFR.out k (by simp at hk; omega)) (below_alloc (Below.refl _ _) _) (by simp) (by have := HL.out; simp only [List.length_nil]; omega) ?_; intro v1 w1 hn1 hb1 _ _; have HN1 := Lib.hid (show Kd.N k32 32 w1 w.heap.size ok v1 xs from hn1); have HB1 := Lib.hid hb1; clear hn1 hb1) | ((with_reducible refine gate_builtin (b := .append) (xs := #[.tmp 11, .tmp 12]) rfl ?_); at_builtin; refine Kd.N_append_rows k32 (w0 := w) w.heap.size rfl (.tmp 11) (.tmp 12) 22 32 zS 152 rfl Try.underlying22 info32 rfl (by decide) (by decide) v1 xs l A l.length c ok _ rfl rfl HN1.out (Kd.F_below (Kd.F_bound (show Kd.F k32 w _ A l.length l from HF0.out)) HB1.out) (fun k hk => ⟨HSEP.out k hk.1, fun e => by have := Kd.N_base HN1.out k e.symm; have := hk.2; omega⟩) (fun k hk => HFR.out k (by have := HB1.out.size; omega)) HB1.out HB1.out.size HL.out ?_; intro v2 w2 hn2 hb2 _ _; obtain ⟨A2, c2, rfl⟩ := Kd.N_slice hn2; rw [List.length_append] at hn2; have hz2 := blk_below HBOX.out.1 hb2; have hc2 := blk_cell hz2 0; have hf2 := blk_frozen hz2 0; have HZ2 := Lib.hid hz2; have HN2 := Lib.hid hn2; have HB2 := Lib.hid hb2; clear hn2 hb2 hz2))
  go_ret
  refine ⟨rfl, ⟨_, ⟨blk_set HZ2.out 0 _, Kd.N_lower (Kd.N_far (p := ⟨r, 0, none⟩) HN2.out HBOX.out.2.2.1 _) HB.out, HBOX.out.2.2⟩, fun k e => Kd.N_base HN2.out k e⟩, (KeepBut.of_below HB2.out r none).set_ 0 _, (HB2.out.mono HB.out).setCell (p := ⟨r, 0, none⟩) HBOX.out.2.2.2 _⟩
set_option maxRecDepth 100000 in
set_option maxHeartbeats 4000000 in
theorem RTake_in (r base : Nat) (i : Int) (xs : List S32) (v : Value) (w : World) (ok : Nat → Prop) (hbox : RefV w r base ok v xs) (hfresh : ∀ k, w.heap.size ≤ k → ok k) (h0 : 0 ≤ i) (hi : i < xs.length) (hl : xs.length * 152 ≤ 140737488355328) :
    Calls Try.prog 18 #[.pointer (some ⟨r, 0, none⟩), .int .i64 i] w fun e w' => ∃ c', e = .returned (.tuple #[.agg c'.toArray, .int .i64 0]) ∧ Kd.FK k32 w' ok (xs.getD i.toNat z32) c' ∧ (∃ v', RefV w' r base ok v' (xs.eraseIdx i.toNat) ∧ ∀ k, v'.ownBlock = some k → w.heap.size ≤ k) ∧ KeepBut w w' r none ∧ Below base w w' := by
  obtain ⟨A0, c0, rfl⟩ := hbox.slice
  have hcA : xs.length ≤ c0 := (Kd.N_reads' hbox.2.1).2.1
  have hil : i.toNat < xs.length := by omega
  have hd1 : decide (i < 0) = false := by simp; omega
  have hd2 : decide ((xs.length : Int) ≤ i) = false := by simp; omega
  obtain ⟨i0, hi0, hz0, hz1, hz2⟩ := info_parts info32
  have cT := cut_to (P := Try.prog) 22 32 .i64 Try.underlying22 hi0 A0 xs.length c0 i h0 (by omega) hcA
  have cF := cut_from (P := Try.prog) 22 32 .i64 Try.underlying22 hi0 14 hz1 A0 xs.length c0 (i + 1) (by omega) (by omega)
  rw [show (14 : Nat) = k32.sz from rfl, show (i + 1).toNat = i.toNat + 1 by omega] at cF
  clear hi0 hz0 hz1 hz2 i0
  obtain ⟨k, hk⟩ : ∃ k, k = i.toNat := ⟨_, rfl⟩
  rw [← hk] at cT cF hil
  obtain ⟨AA, hAA⟩ : ∃ AA, AA = (if c0 = k + 1 then A0 else A0.map (·.add ((k + 1) * k32.sz))) := ⟨_, rfl⟩
  have cTl : (xs.take k).length = k := by rw [List.length_take]; omega
  have cFl : (xs.drop (k + 1)).length = xs.length - (k + 1) := by rw [List.length_drop]
  obtain ⟨n2, hn2⟩ : ∃ n2, n2 = xs.length - (k + 1) := ⟨_, rfl⟩
  rw [← hAA, ← hn2] at cF
  obtain ⟨c2, hc2⟩ : ∃ c2, c2 = c0 - (k + 1) := ⟨_, rfl⟩
  rw [← hc2] at cF
  have hF0 := Kd.F_bound (Kd.N_F hbox.2.1)
  have HF1 := Lib.hid (fun (W : World) (hb : Below w.heap.size w W) => (show Kd.F k32 W (fun b => ok b ∧ b < w.heap.size) A0 k (xs.take k) by have h := Kd.F_take (Kd.F_below hF0 hb) (Nat.le_of_lt hil); rwa [cTl] at h))
  have HF2 := Lib.hid (fun (W : World) (hb : Below w.heap.size w W) => (show Kd.F k32 W (fun b => ok b ∧ b < w.heap.size) AA n2 (xs.drop (k + 1)) by have h := Kd.F_cut (c := c0) (m := k + 1) (Kd.F_below hF0 hb) hil hcA; rw [← hAA, cFl, ← hn2] at h; exact h))
  obtain ⟨ad, cx, hA2, hcl, hFK0, hcc, had⟩ := Kd.F_get hF0 z32 i h0 hi
  have hadlt : ad.block < w.heap.size := (had (by decide)).2
  obtain ⟨x, hx⟩ : ∃ x, x = xs.getD i.toNat z32 := ⟨_, rfl⟩
  rw [← hx] at hFK0 ⊢
  obtain ⟨Ax, kx, rfl, hkx, _⟩ := k32_open (Kd.FK_now hFK0)
  subst hA2
  have HF3 := Lib.hid (fun (W : World) (hb : Below w.heap.size w W) => (show Kd.FK k32 W (fun b => ok b ∧ b < w.heap.size) x [.int .i64 x.f0, .int .i64 x.f1.f0, .int .i64 x.f1.f1, .int .u64 x.f1.f2, .int .i64 x.f1.f3, .int .u64 x.f1.f4, .int .u64 x.f1.f5, .int .u64 x.f1.f6, .int .i64 x.f1.f7, .int .i64 x.f1.f8, .string x.f1.f9, .string x.f1.f10, .string x.f1.f11, .slice Ax x.f1.f12.length kx] from Kd.FK_below hFK0 hb))
  have HF4 := Lib.hid (fun (W : World) (hb : Below w.heap.size w W) => (fun t u h => (by rw [add_add]; exact (pw_cell_below' hb hadlt (hcc t u h)) : W.cell? ((ad.add (i.toNat * 14)).add t) = some u) : ∀ t u, [.int .i64 x.f0, .int .i64 x.f1.f0, .int .i64 x.f1.f1, .int .u64 x.f1.f2, .int .i64 x.f1.f3, .int .u64 x.f1.f4, .int .u64 x.f1.f5, .int .u64 x.f1.f6, .int .i64 x.f1.f7, .int .i64 x.f1.f8, .string x.f1.f9, .string x.f1.f10, .string x.f1.f11, .slice Ax x.f1.f12.length kx][t]? = some u → W.cell? ((ad.add (i.toNat * 14)).add t) = some u))
  have HER := Lib.hid (show xs.eraseIdx i.toNat = xs.take k ++ xs.drop (k + 1) by rw [← hk, List.eraseIdx_eq_take_drop_succ])
  have HBOX := Lib.hid hbox
  have HFR := Lib.hid hfresh
  have HL := Lib.hid hl
  have HTL := Lib.hid cTl
  have HN2 := Lib.hid (hn2.trans cFl.symm)
  have HIL := Lib.hid hil
  have HI := Lib.hid hi
  have hi2 : i ≤ 925904528652 := by omega
  have hkn : k + n2 + 1 ≤ xs.length := by omega
  have HKN := Lib.hid hkn
  rw [HER.out]
  clear hbox hfresh hl hcA hil hk hAA hn2 hc2 cTl cFl hF0 hcl hFK0 hcc had hadlt hx hkx hkn
  go_enter Try.func18, Try.ntmps18
  go_wp2_with (first | ((with_reducible refine gate_dst (N := 4) rfl ?_); refine box_event ?hg (N := 4) ?hd (cs := zS.cells) (t := 32) ?hr ?_; (case hd => rfl); (case hg => rfl); (case hr => first | (go_simp; done) | (go_simp; rfl)); intro g4 hg w1 hz hb; have HGg4 := Lib.hid hg; have HZg4 := Lib.hid hz; have HBg4 := Lib.hid hb; have i1 : w1.cell? ⟨r, 0, none⟩ = some (.slice (some ad) xs.length c0) := (blk_cell (blk_below HBOX.out.1 hb) 0).trans rfl; clear hg hz hb) | ((with_reducible refine gate_dst (N := 26) rfl ?_); refine wpList_load_at rfl 32 (.tmp 25) rfl (ad.add (i.toNat * 14)) rfl _ _ (HF4.out _ HBg4.out) Try.underlying32 rfl (by kernel_rfl) ?_) | ((with_reducible refine gate_dst (N := 6) rfl ?_); refine box_event ?hg (N := 6) ?hd (cs := zS.cells) (t := 32) ?hr ?_; (case hd => rfl); (case hg => rfl); (case hr => first | (go_simp; done) | (go_simp; rfl)); intro g6 hg w2 hz hb; have HGg6 := Lib.hid hg; have HZg6 := Lib.hid hz; have HBg6 := Lib.hid hb; clear hg hz hb) | (refine wpList_store_row rfl rfl 32 (.tmp 6) (.tmp 26) rfl (g := g6) rfl rfl HZg6.out (by kernel_rfl) rfl (k32.K_one (Kd.FK_now (HF3.out _ HBg4.out))) ?_; intro w3 hz hg; have HZw3 := Lib.hid hz; have HGw3 := Lib.hid hg; clear i1; have hb3 : Below w.heap.size w w3 := (HBg4.out.trans (HBg6.out.mono HBg4.out.size)).grown hg (by have := HBg4.out.size; have := HBg6.out.size; omega) (fun b e => by injection e with e; have := HBg4.out.size; have := HGg6.out; omega); have HB3 := Lib.hid hb3; have i3 : (w3.alloc (.cells #[] 32)).cell? ⟨r, 0, none⟩ = some (.slice (some ad) xs.length c0) := (blk_cell (blk_below HBOX.out.1 (below_alloc hb3 _)) 0).trans rfl; have hgs4 := blk_lt HZg4.out; have hgs6 := HBg6.out.size; have hgs3 := hg.size; have HSG := Lib.hid (by omega : g4 < w3.heap.size); have HE := Lib.hid (Kd.R_N (R_empty k32 32 w3 w3.heap.size (fun b => ok b ∧ b ≠ g4) (Nat.le_refl _) ⟨HFR.out _ hb3.size, by have := HSG.out; omega⟩)); clear hgs4 hgs6 hgs3; have HZ43 := Lib.hid (blk_grown (blk_below HZg4.out HBg6.out) hg (by intro e; injection e with e; have := HGg6.out; have := blk_lt HZg4.out; omega)); clear hb3; clear hz hg) | ((with_reducible refine gate_builtin (b := .append) (xs := #[.tmp 27, .tmp 33]) rfl ?_); at_builtin; refine Kd.N_append_rows k32 (w0 := w3) w3.heap.size rfl (.tmp 27) (.tmp 33) 22 32 zS 152 rfl Try.underlying22 info32 rfl (by decide) (by decide) (.slice (some ⟨w3.heap.size, 0, none⟩) 0 0) [] (xs.take k) (some ad) k c0 (fun b => ok b ∧ b ≠ g4) _ rfl rfl HE.out (HF1.out _ (below_alloc HB3.out _)) (fun b hb => ⟨⟨hb.1, by have := hb.2; have := HGg4.out; omega⟩, fun e => by have e2 : some b = some w3.heap.size := e; injection e2 with e2; have := HB3.out.size; have := hb.2; omega⟩) (fun b hb => ⟨HFR.out b (by have := HB3.out.size; simp at hb; omega), by have := HSG.out; simp at hb; omega⟩) (below_alloc (Below.refl _ _) _) (by simp) (by have := HL.out; have := HKN.out; simp only [List.length_nil]; omega) ?_; intro v8 w8 hn8 hb8 _ _; have HN8 := Lib.hid (show Kd.N k32 32 w8 w3.heap.size (fun b => ok b ∧ b ≠ g4) v8 (xs.take k) from hn8); have HB8 := Lib.hid hb8; clear i3; have i8 : w8.cell? ⟨r, 0, none⟩ = some (.slice (some ad) xs.length c0) := (blk_cell (blk_below HBOX.out.1 (HB3.out.trans (hb8.mono HB3.out.size))) 0).trans rfl; clear hn8 hb8) | ((with_reducible refine gate_builtin (b := .append) (xs := #[.tmp 36, .tmp 43]) rfl ?_); at_builtin; refine Kd.N_append_rows k32 (w0 := w3) w3.heap.size rfl (.tmp 36) (.tmp 43) 22 32 zS 152 rfl Try.underlying22 info32 rfl (by decide) (by decide) v8 (xs.take k) (xs.drop (k + 1)) AA n2 c2 (fun b => ok b ∧ b ≠ g4) _ rfl rfl HN8.out (HF2.out _ (HB3.out.trans (HB8.out.mono HB3.out.size))) (fun b hb => ⟨⟨hb.1, by have := hb.2; have := HGg4.out; omega⟩, fun e => by have := Kd.N_base HN8.out b e.symm; have := HB3.out.size; have := hb.2; omega⟩) (fun b hb => ⟨HFR.out b (by have := HB3.out.size; have := HB8.out.size; omega), by have := HSG.out; have := HB8.out.size; omega⟩) HB8.out HB8.out.size (by rw [HTL.out]; have := HL.out; have := HKN.out; omega) ?_; intro v9 w9 hn9 hb9 _ _; clear i8; obtain ⟨A9, c9, rfl⟩ := Kd.N_slice hn9; obtain ⟨m9, hm9⟩ : ∃ m9, m9 = (xs.take k ++ xs.drop (k + 1)).length := ⟨_, rfl⟩; rw [← hm9] at hn9 ⊢; clear hm9; have hz9 := blk_below HBOX.out.1 (HB3.out.trans (hb9.mono HB3.out.size)); have hc9 := blk_cell hz9 0; have hf9 := blk_frozen hz9 0; have HZ9 := Lib.hid hz9; have HN9 := Lib.hid hn9; have HB9 := Lib.hid hb9; have HZ69 := Lib.hid (show (w9.setCell ⟨r, 0, none⟩ (.slice A9 m9 c9)).heap[g6]? = _ from blk_far (blk_below HZw3.out hb9) (p := ⟨r, 0, none⟩) (by show g6 ≠ r; have := HGg6.out; have := HBOX.out.lt; have := HBg4.out.size; omega) _); have HZ49 := Lib.hid (show (w9.setCell ⟨r, 0, none⟩ (.slice A9 m9 c9)).heap[g4]? = _ from blk_far (blk_below HZ43.out hb9) (p := ⟨r, 0, none⟩) (by show g4 ≠ r; have := HGg4.out; have := HBOX.out.lt; omega) _); clear hn9 hb9 hz9) | ((with_reducible refine gate_dst (N := 47) rfl ?_); refine wpList_load_row rfl 32 (.tmp 6) rfl g6 rfl 32 _ (0, 0) _ HZ69.out Try.underlying32 rfl (by kernel_rfl) ?_) | (refine wpList_store_row rfl rfl 32 (.tmp 4) (.tmp 47) rfl (g := g4) rfl rfl HZ49.out (by kernel_rfl) rfl (k32.K_one (Kd.FK_now (HF3.out _ HBg4.out))) ?_; intro w10 hz hg; have HZw10 := Lib.hid hz; have HGw10 := Lib.hid hg; skip; clear hz hg))
  refine bodyPost_ret (results_ct rfl _ _ g4 32 _ (0, 0) _ rfl HZw10.out Try.underlying32 rfl (by kernel_rfl)) rfl ?_
  have hs3 := HB3.out.size
  have hg4 := HGg4.out
  have hb9 := HB9.out.size
  have hbr : base ≤ r := HBOX.out.2.2.2
  have hrl := HBOX.out.lt
  have hbx9 : RefV (w9.setCell ⟨r, 0, none⟩ (.slice A9 m9 c9)) r base (fun b => ok b ∧ b ≠ g4) (.slice A9 m9 c9) (xs.take k ++ xs.drop (k + 1)) := ⟨blk_set HZ9.out 0 _, Kd.N_lower (Kd.N_far (p := ⟨r, 0, none⟩) HN9.out (fun b hb => HBOX.out.2.2.1 b hb.1) _) (by omega), fun b hb => HBOX.out.2.2.1 b hb.1, hbr⟩
  refine ⟨_, rfl, ?_, ⟨_, (hbx9.grown HGw10.out (fun h => h.2 rfl) (by omega)).mono (fun b hb => hb.1) HBOX.out.2.2.1, fun b e => by have := Kd.N_base HN9.out b e; omega⟩, ?_, ?_⟩
  · exact Kd.FK_mono (Kd.FK_grown (Kd.FK_step (HF3.out _ (HB3.out.trans (HB9.out.mono hs3))) (fun b hb _ => Below.heap_setCell w9 ⟨r, 0, none⟩ (.slice A9 m9 c9) b (HBOX.out.2.2.1 b hb.1))) HGw10.out (fun b hb e => by injection e with e; have := hb.2; omega)) (fun b hb => hb.1)
  · exact (((KeepBut.of_below (HB3.out.trans (HB9.out.mono hs3)) r none)).set_ 0 _).trans (KeepBut.of_grown HGw10.out r) (.inr ⟨g4, rfl, by omega⟩)
  · exact Below.grown ((((HB3.out.trans (HB9.out.mono hs3)).mono (by omega : base ≤ w.heap.size))).setCell (p := ⟨r, 0, none⟩) hbr _) HGw10.out (by simp only [World.size_setCell]; omega) (fun b e => by injection e with e; omega)
set_option maxRecDepth 100000 in
set_option maxHeartbeats 2000000 in
theorem RTake_out (r base : Nat) (i : Int) (xs : List S32) (v : Value) (w : World) (ok : Nat → Prop) (hbox : RefV w r base ok v xs) (hi : i < 0 ∨ (xs.length : Int) ≤ i) :
    Calls Try.prog 18 #[.pointer (some ⟨r, 0, none⟩), .int .i64 i] w fun e w' => e = .returned (.tuple #[zS, .int .i64 5]) ∧ Below w.heap.size w w' := by
  obtain ⟨A0, c0, rfl⟩ := hbox.slice
  have hd : (decide (i < 0) || decide ((xs.length : Int) ≤ i)) = true := by simpa using hi
  obtain ⟨b1, hb1⟩ : ∃ b, decide (i < 0) = b := ⟨_, rfl⟩
  obtain ⟨b2, hb2⟩ : ∃ b, decide ((xs.length : Int) ≤ i) = b := ⟨_, rfl⟩
  rw [hb1, hb2] at hd
  have HBOX := Lib.hid hbox
  clear hbox hi
  cases b1
  all_goals cases b2
  all_goals first | (exact absurd hd (by decide)) | skip
  all_goals clear hd
  all_goals (
    go_enter Try.func18, Try.ntmps18
    go_wp2_with (first | ((with_reducible refine gate_dst (N := 4) rfl ?_); refine box_event ?hg (N := 4) ?hd (cs := zS.cells) (t := 32) ?hr ?_; (case hd => rfl); (case hg => rfl); (case hr => first | (go_simp; done) | (go_simp; rfl)); intro g4 hg w1 hz hb; have HGg4 := Lib.hid hg; have HZg4 := Lib.hid hz; have HBg4 := Lib.hid hb; have i1 : w1.cell? ⟨r, 0, none⟩ = some (.slice A0 xs.length c0) := (blk_cell (blk_below HBOX.out.1 hb) 0).trans rfl; clear hg hz hb) | (refine wpList_store_row rfl rfl 32 (.tmp 4) (.tmp 19) rfl (g := g4) rfl rfl HZg4.out (by kernel_rfl) rfl (one14 (x := z32) rfl) ?_; intro w2 hz hg; have HZw2 := Lib.hid hz; have HGw2 := Lib.hid hg; skip; clear hz hg))
    refine bodyPost_ret (results_ct rfl _ _ g4 32 _ (0, 0) _ rfl HZw2.out Try.underlying32 rfl (by kernel_rfl)) rfl ?_
    exact ⟨rfl, Below.grown HBg4.out HGw2.out HBg4.out.size (fun b e => by injection e with e; have := HGg4.out; omega)⟩)
theorem RCopy_out (r base : Nat) (i : Int) (xs : List S32) (v : Value) (w : World) (ok : Nat → Prop) (hbox : RefV w r base ok v xs) (hi : i < 0 ∨ (xs.length : Int) ≤ i) :
    Calls Try.prog 19 #[.pointer (some ⟨r, 0, none⟩), .int .i64 i] w fun e w' => e = .returned (.int .i64 5) ∧ w = w' := by
  obtain ⟨A0, c0, rfl⟩ := hbox.slice
  have hd : (decide (i < 0) || decide ((xs.length : Int) ≤ i)) = true := by simpa using hi
  obtain ⟨b1, hb1⟩ : ∃ b, decide (i < 0) = b := ⟨_, rfl⟩
  obtain ⟨b2, hb2⟩ : ∃ b, decide ((xs.length : Int) ≤ i) = b := ⟨_, rfl⟩
  rw [hb1, hb2] at hd
  have i1 : w.cell? ⟨r, 0, none⟩ = some (.slice A0 xs.length c0) := (blk_cell hbox.1 0).trans rfl
  clear hbox hi
  cases b1
  all_goals cases b2
  all_goals first | (exact absurd hd (by decide)) | skip
  all_goals clear hd
  all_goals (
    go_enter Try.func19, Try.ntmps19
    go_wp2_with fail
    go_ret
    exact ⟨rfl, rfl⟩)
set_option maxRecDepth 100000 in
set_option maxHeartbeats 4000000 in
theorem RCopy_in (r base : Nat) (i : Int) (xs : List S32) (v : Value) (w : World) (ok : Nat → Prop) (hbox : RefV w r base ok v xs) (hfresh : ∀ k, w.heap.size ≤ k → ok k) (h0 : 0 ≤ i) (hi : i < xs.length) (hb : base ≤ w.heap.size) (hl : (xs.length + 1) * 152 ≤ 140737488355328) :
    Calls Try.prog 19 #[.pointer (some ⟨r, 0, none⟩), .int .i64 i] w fun e w' => e = .returned (.int .i64 0) ∧ (∃ v', RefV w' r base ok v' (xs ++ [xs.getD i.toNat z32]) ∧ (v'.ownBlock = v.ownBlock ∨ ∃ b, v'.ownBlock = some b ∧ w.heap.size ≤ b)) ∧ Kept w w' (fun k => k = r ∨ some k = v.ownBlock) ∧ Below base w w' := by
  obtain ⟨A0, c0, rfl⟩ := hbox.slice
  have hd1 : decide (i < 0) = false := by simp; omega
  have hd2 : decide ((xs.length : Int) ≤ i) = false := by simp; omega
  obtain ⟨cx, hcl, hFKe, hcce, ⟨ad, hA2, hcc⟩⟩ : ∃ cx : List Value, cx.length = 14 ∧ Kd.FK k32 w (fun b => ok b ∧ some b ≠ (Value.slice A0 xs.length c0).ownBlock) (xs.getD i.toNat z32) cx ∧ True ∧ ∃ ad, A0 = some ad ∧ ad.block < w.heap.size ∧ ∀ t u, cx[t]? = some u → w.cell? (ad.add (i.toNat * 14 + t)) = some u := by
    obtain ⟨gA, cap, hv, hgb, hgl, _⟩ := Kd.N_form hbox.2.1 (by omega)
    injection hv with ha hn hc
    subst ha hc
    obtain ⟨cs, hcl, hFK, hcc, _⟩ := Kd.N_elem hbox.2.1 z32 i h0 hi
    refine ⟨cs, hcl, Kd.FK_mono hFK (fun k hk => ⟨hk.1, fun e => by simp [Value.ownBlock] at e; exact hk.2 e⟩), trivial, ⟨gA, 0, none⟩, rfl, hgl, fun t u ht => ?_⟩
    rw [add_at, Nat.zero_add]
    exact hcc t u ht
  obtain ⟨x, hx⟩ : ∃ x, x = xs.getD i.toNat z32 := ⟨_, rfl⟩
  rw [← hx] at hFKe ⊢
  obtain ⟨Ax, kx, rfl, hkx, _⟩ := k32_open (Kd.FK_now hFKe)
  subst hA2
  have HF3 := Lib.hid (fun (W : World) (hb : Below w.heap.size w W) => Kd.FK_below hFKe hb)
  have HF4 := Lib.hid (fun (W : World) (hb : Below w.heap.size w W) => (fun t u h => (by rw [add_add]; exact (pw_cell_below' hb hcc.1 (hcc.2 t u h)) : W.cell? ((ad.add (i.toNat * 14)).add t) = some u) : ∀ t u, [.int .i64 x.f0, .int .i64 x.f1.f0, .int .i64 x.f1.f1, .int .u64 x.f1.f2, .int .i64 x.f1.f3, .int .u64 x.f1.f4, .int .u64 x.f1.f5, .int .u64 x.f1.f6, .int .i64 x.f1.f7, .int .i64 x.f1.f8, .string x.f1.f9, .string x.f1.f10, .string x.f1.f11, .slice Ax x.f1.f12.length kx][t]? = some u → W.cell? ((ad.add (i.toNat * 14)).add t) = some u))
  have HBOX := Lib.hid hbox
  have HFR := Lib.hid hfresh
  have HL := Lib.hid hl
  have HB := Lib.hid hb
  have hi2 : i ≤ 925904528652 := by omega
  have i1 : w.cell? ⟨r, 0, none⟩ = some (.slice (some ad) xs.length c0) := (blk_cell hbox.1 0).trans rfl
  clear hbox hfresh hl hb hcl hcce hcc hFKe hkx hx
  go_enter Try.func19, Try.ntmps19
  go_wp2_with fail
  refine start_ (n := 17) (S := fun w' => w'.cell? ⟨r, 0, none⟩ = some (.slice (some ad) xs.length c0) ∧ (∀ t u, [.int .i64 x.f0, .int .i64 x.f1.f0, .int .i64 x.f1.f1, .int .u64 x.f1.f2, .int .i64 x.f1.f3, .int .u64 x.f1.f4, .int .u64 x.f1.f5, .int .u64 x.f1.f6, .int .i64 x.f1.f7, .int .i64 x.f1.f8, .string x.f1.f9, .string x.f1.f10, .string x.f1.f11, .slice Ax x.f1.f12.length kx][t]? = some u → w'.cell? ((ad.add (i.toNat * 14)).add t) = some u)) (ds := [13, 16]) #[false, false, false, false, false, false, false, false, false, false, false, false, false, false, false, false, false] (by kernel_rfl) rfl rfl (⟨(blk_cell (blk_below HBOX.out.1 (below_drew1 (Below.refl _ _))) 0).trans rfl, HF4.out _ (below_drew1 (Below.refl _ _))⟩) (fun hHeld => ?_)
  refine pure_ (i := 0) (N := some 16) (v := ?_) (a' := ?_) #[true, false, false, false, false, false, false, false, false, false, false, false, false, false, false, false, false] rfl rfl (by kernel_rfl) (fun _ _ _ h => h) (Or.inl ⟨by rfl, ?_⟩) ?_ ?_
  rotate_left
  · intro w'
    go_simp
    with_reducible rfl
  rotate_left
  · simp only [Act.put, List.setIfInBounds_toArray, List.set_cons_zero, List.set_cons_succ, i64_w, i32_w]
    rfl
  refine pure_ (i := 1) (N := some 17) (v := ?_) (a' := ?_) #[true, true, false, false, false, false, false, false, false, false, false, false, false, false, false, false, false] rfl rfl (by kernel_rfl) (fun _ _ _ h => h) (Or.inl ⟨by rfl, ?_⟩) ?_ ?_
  rotate_left
  · intro w'
    go_simp
    with_reducible rfl
  rotate_left
  · simp only [Act.put, List.setIfInBounds_toArray, List.set_cons_zero, List.set_cons_succ, i64_w, i32_w]
    rfl
  refine pure_ (i := 2) (N := some 18) (v := ?_) (a' := ?_) #[true, true, true, false, false, false, false, false, false, false, false, false, false, false, false, false, false] rfl rfl (by kernel_rfl) (fun _ _ _ h => h) (Or.inl ⟨by rfl, ?_⟩) ?_ ?_
  rotate_left
  · intro w'
    go_simp
    with_reducible rfl
  rotate_left
  · simp only [Act.put, List.setIfInBounds_toArray, List.set_cons_zero, List.set_cons_succ, i64_w, i32_w]
    rfl
  refine pure_ (i := 3) (N := some 19) (v := ?_) (a' := ?_) #[true, true, true, true, false, false, false, false, false, false, false, false, false, false, false, false, false] rfl rfl (by kernel_rfl) (fun _ _ _ h => h) (Or.inl ⟨by rfl, ?_⟩) ?_ ?_
  rotate_left
  · intro w'
    go_simp
    with_reducible rfl
  rotate_left
  · simp only [Act.put, List.setIfInBounds_toArray, List.set_cons_zero, List.set_cons_succ, i64_w, i32_w]
    rfl
  refine take_ (i := 4) (N := some 20) (v := ?_) (a' := ?_) #[true, true, true, true, true, false, false, false, false, false, false, false, false, false, false, false, false] rfl rfl (by kernel_rfl) (fun _ _ _ h => h) (Or.inl ⟨by rfl, ?_⟩) hHeld ?_ ?_
  rotate_left
  · rintro w' ⟨s0, s1⟩
    go_simp
    with_reducible rfl
  rotate_left
  · simp only [Act.put, List.setIfInBounds_toArray, List.set_cons_zero, List.set_cons_succ, i64_w, i32_w]
    rfl
  refine pure_ (i := 5) (N := some 21) (v := ?_) (a' := ?_) #[true, true, true, true, true, true, false, false, false, false, false, false, false, false, false, false, false] rfl rfl (by kernel_rfl) (fun _ _ _ h => h) (Or.inl ⟨by rfl, ?_⟩) ?_ ?_
  rotate_left
  · intro w'
    go_simp
    with_reducible rfl
  rotate_left
  · simp only [Act.put, List.setIfInBounds_toArray, List.set_cons_zero, List.set_cons_succ, i64_w, i32_w]
    rfl
  refine pure_ (i := 6) (N := some 22) (v := ?_) (a' := ?_) #[true, true, true, true, true, true, true, false, false, false, false, false, false, false, false, false, false] rfl rfl (by kernel_rfl) (fun _ _ _ h => h) (Or.inl ⟨by rfl, ?_⟩) ?_ ?_
  rotate_left
  · intro w'
    go_simp
    with_reducible rfl
  rotate_left
  · simp only [Act.put, List.setIfInBounds_toArray, List.set_cons_zero, List.set_cons_succ, i64_w, i32_w]
    rfl
  refine pure_ (i := 7) (N := some 23) (v := ?_) (a' := ?_) #[true, true, true, true, true, true, true, true, false, false, false, false, false, false, false, false, false] rfl rfl (by kernel_rfl) (fun _ _ _ h => h) (Or.inl ⟨by rfl, ?_⟩) ?_ ?_
  rotate_left
  · intro w'
    go_simp
    with_reducible rfl
  rotate_left
  · simp only [Act.put, List.setIfInBounds_toArray, List.set_cons_zero, List.set_cons_succ, i64_w, i32_w]
    rfl
  refine take_ (i := 8) (N := some 24) (v := ?_) (a' := ?_) #[true, true, true, true, true, true, true, true, true, false, false, false, false, false, false, false, false] rfl rfl (by kernel_rfl) (fun _ _ _ h => h) (Or.inl ⟨by rfl, ?_⟩) hHeld ?_ ?_
  rotate_left
  · rintro w' ⟨s0, s1⟩
    go_simp
    with_reducible rfl
  rotate_left
  · simp only [Act.put, List.setIfInBounds_toArray, List.set_cons_zero, List.set_cons_succ, i64_w, i32_w]
    rfl
  refine pure_ (i := 9) (N := some 25) (v := ?_) (a' := ?_) #[true, true, true, true, true, true, true, true, true, true, false, false, false, false, false, false, false] rfl rfl (by kernel_rfl) (fun _ _ _ h => h) (Or.inl ⟨by rfl, ?_⟩) ?_ ?_
  rotate_left
  · intro w'
    go_simp
    with_reducible rfl
  rotate_left
  · simp only [Act.put, List.setIfInBounds_toArray, List.set_cons_zero, List.set_cons_succ, i64_w, i32_w]
    rfl
  refine pure_ (i := 10) (N := some 26) (v := ?_) (a' := ?_) #[true, true, true, true, true, true, true, true, true, true, true, false, false, false, false, false, false] rfl rfl (by kernel_rfl) (fun _ _ _ h => h) (Or.inl ⟨by rfl, ?_⟩) ?_ ?_
  rotate_left
  · intro w'
    go_simp
    with_reducible rfl
  rotate_left
  · simp only [Act.put, List.setIfInBounds_toArray, List.set_cons_zero, List.set_cons_succ, i64_w, i32_w]
    rfl
  refine take_ (i := 11) (N := some 27) (v := .agg [.int .i64 x.f0, .int .i64 x.f1.f0, .int .i64 x.f1.f1, .int .u64 x.f1.f2, .int .i64 x.f1.f3, .int .u64 x.f1.f4, .int .u64 x.f1.f5, .int .u64 x.f1.f6, .int .i64 x.f1.f7, .int .i64 x.f1.f8, .string x.f1.f9, .string x.f1.f10, .string x.f1.f11, .slice Ax x.f1.f12.length kx].toArray) (a' := ?_) #[true, true, true, true, true, true, true, true, true, true, true, true, false, false, false, false, false] rfl rfl (by kernel_rfl) (fun _ _ _ h => h) (yieldsIf_load_adr (by rfl) 32 (.tmp 26) rfl (ad.add (i.toNat * 14)) rfl [.int .i64 x.f0, .int .i64 x.f1.f0, .int .i64 x.f1.f1, .int .u64 x.f1.f2, .int .i64 x.f1.f3, .int .u64 x.f1.f4, .int .u64 x.f1.f5, .int .u64 x.f1.f6, .int .i64 x.f1.f7, .int .i64 x.f1.f8, .string x.f1.f9, .string x.f1.f10, .string x.f1.f11, .slice Ax x.f1.f12.length kx] _ (fun w' h => h.2) Try.underlying32 rfl (by kernel_rfl)) hHeld ?_ ?_
  rotate_left
  · simp only [Act.put, List.setIfInBounds_toArray, List.set_cons_zero, List.set_cons_succ, i64_w, i32_w]
    rfl
  refine one_ (i := 12) (N := some 28) #[true, true, true, true, true, true, true, true, true, true, true, true, true, false, false, false, false] rfl rfl (by kernel_rfl) (by decide) (fun K hK => ?_)
  refine event_step (v := .slice (some ⟨w.heap.size, 0, none⟩) 1 1) (w1 := w.drew.alloc (.cells #[.int .i64 x.f0, .int .i64 x.f1.f0, .int .i64 x.f1.f1, .int .u64 x.f1.f2, .int .i64 x.f1.f3, .int .u64 x.f1.f4, .int .u64 x.f1.f5, .int .u64 x.f1.f6, .int .i64 x.f1.f7, .int .i64 x.f1.f8, .string x.f1.f9, .string x.f1.f10, .string x.f1.f11, .slice Ax x.f1.f12.length kx] 32)) (by rfl) (by first | (go_simp; done) | (go_simp; rfl)) ?_
  refine hK.out _ _ (⟨(blk_cell (blk_below HBOX.out.1 (below_alloc (below_drew1 (Below.refl _ _)) _)) 0).trans rfl, HF4.out _ (below_alloc (below_drew1 (Below.refl _ _)) _)⟩) (fun hHeld => ?_)
  clear hK K
  refine norm_ (a' := ?_) ?_ ?_
  rotate_left
  · show Act.put _ (some 28) _ = _
    simp only [Act.put, List.setIfInBounds_toArray, List.set_cons_zero, List.set_cons_succ, i64_w, i32_w]
    rfl
  refine last_ (i := 13) (N := some 29) #[true, true, true, true, true, true, true, true, true, true, true, true, true, true, false, false, false] rfl rfl (by kernel_rfl) (by decide) (fun K hK => ?_)
  refine Kd.N_append_step k32 (w0 := w) (W := w.drew) base (by rfl) (.tmp 20) (.tmp 28) 22 32 zS 152 (by rfl) Try.underlying22 info32 rfl (by decide) (by decide) (.slice (some ad) xs.length c0) xs x [.int .i64 x.f0, .int .i64 x.f1.f0, .int .i64 x.f1.f1, .int .u64 x.f1.f2, .int .i64 x.f1.f3, .int .u64 x.f1.f4, .int .u64 x.f1.f5, .int .u64 x.f1.f6, .int .i64 x.f1.f7, .int .i64 x.f1.f8, .string x.f1.f9, .string x.f1.f10, .string x.f1.f11, .slice Ax x.f1.f12.length kx] ok _ (by rfl) (by rfl) (HF3.out _ (below_drew1 (Below.refl _ _))) (fun k hk => ⟨hk.1, hk.2⟩) (fun k hk => HFR.out k hk) (Kd.N_drew HBOX.out.2.1) ((below_drew1 (Below.refl _ _)).mono HB.out) HB.out HL.out ?_
  intro v2 w2 hn2 hb2 hg2 hat2
  obtain ⟨A2, c2, rfl⟩ := Kd.N_slice hn2
  rw [List.length_append] at hn2 hat2 ⊢
  have hz2 := blk_grown (blk_below HBOX.out.1 (below_drew1 (Below.refl _ _))) hg2 (fun e => HBOX.out.2.2.1 _ (HBOX.out.2.1.1 _ e.symm) rfl)
  have HZ2 := Lib.hid hz2
  have HN2 := Lib.hid hn2
  have HB2 := Lib.hid hb2
  have HG2 := Lib.hid hg2
  have HAT2 := Lib.hid hat2
  clear hn2 hb2 hg2 hat2 hz2
  refine hK.out _ _ ?_
  clear hK K
  refine norm_ (a' := ?_) ?_ ?_
  rotate_left
  · show Act.put _ (some 29) _ = _
    simp only [Act.put, List.setIfInBounds_toArray, List.set_cons_zero, List.set_cons_succ, i64_w, i32_w]
    rfl
  refine pure_ (i := 14) (N := some 30) (v := ?_) (a' := ?_) #[true, true, true, true, true, true, true, true, true, true, true, true, true, true, true, false, false] rfl rfl (by kernel_rfl) (fun _ _ _ h => h) (Or.inl ⟨by rfl, ?_⟩) ?_ ?_
  rotate_left
  · intro w'
    go_simp
    with_reducible rfl
  rotate_left
  · simp only [Act.put, List.setIfInBounds_toArray, List.set_cons_zero, List.set_cons_succ, i64_w, i32_w]
    rfl
  refine pure_ (i := 15) (N := some 31) (v := ?_) (a' := ?_) #[true, true, true, true, true, true, true, true, true, true, true, true, true, true, true, true, false] rfl rfl (by kernel_rfl) (fun _ _ _ h => h) (Or.inl ⟨by rfl, ?_⟩) ?_ ?_
  rotate_left
  · intro w'
    go_simp
    with_reducible rfl
  rotate_left
  · simp only [Act.put, List.setIfInBounds_toArray, List.set_cons_zero, List.set_cons_succ, i64_w, i32_w]
    rfl
  refine last_ (i := 16) (N := none) #[true, true, true, true, true, true, true, true, true, true, true, true, true, true, true, true, true] rfl rfl (by kernel_rfl) (by decide) (fun K hK => ?_)
  have hc2 := blk_cell HZ2.out 0
  have hf2 := blk_frozen HZ2.out 0
  refine skip_ (w1 := w2.setCell ⟨r, 0, none⟩ (.slice A2 (xs.length + 1) c2)) (by rfl) rfl (by go_simp) ?_
  clear hc2 hf2
  refine hK.out _ _ ?_
  clear hK K
  refine done_ (by kernel_rfl) ?_
  clear hHeld
  go_wp2_with fail
  go_ret
  refine ⟨rfl, ⟨_, ⟨blk_set HZ2.out 0 _, Kd.N_far (p := ⟨r, 0, none⟩) HN2.out HBOX.out.2.2.1 _, HBOX.out.2.2⟩, HAT2.out⟩, Kept.setCell (Kept.of_grown HG2.out (Kept.refl _ _) (fun k e => .inl (.inr e.symm))) (.inl (.inl rfl)) _, HB2.out.setCell (p := ⟨r, 0, none⟩) HBOX.out.2.2.2 _⟩
end Go.Proofs.Ytijbpncekdiodaa
