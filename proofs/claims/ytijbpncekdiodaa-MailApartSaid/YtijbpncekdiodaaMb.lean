/- A send of memory of its own (own). -/
import Derived.Test.YtijbpncekdiodaaMa
namespace Go.Proofs.Ytijbpncekdiodaa
open Go.RowKit Go.Proofs.YtijbpncekdiodaaW.PrintWords Go.Proofs.YtijbpncekdiodaaW.PrintLast Go.Proofs.YtijbpncekdiodaaW.PrintMore
open Go.Proofs.Ytijbpncekdiodaa.PMailMoves

/-- A send's variables may be cloned. -/
def Fits (x : S32) : Prop := x.f1.f12.length * 48 ≤ 140737488355328

theorem one14 {x : S32} {v : Value} (hv : v.oneCell' = true) : ∀ q ∈ [.int .i64 x.f0, .int .i64 x.f1.f0, .int .i64 x.f1.f1, .int .u64 x.f1.f2, .int .i64 x.f1.f3, .int .u64 x.f1.f4, .int .u64 x.f1.f5, .int .u64 x.f1.f6, .int .i64 x.f1.f7, .int .i64 x.f1.f8, .string x.f1.f9, .string x.f1.f10, .string x.f1.f11, v], q.oneCell' = true := by
  intro q hq
  simp only [List.mem_cons, List.not_mem_nil, or_false] at hq
  rcases hq with rfl | rfl | rfl | rfl | rfl | rfl | rfl | rfl | rfl | rfl | rfl | rfl | rfl | rfl <;> first | rfl | exact hv

set_option maxRecDepth 100000 in
set_option maxHeartbeats 1000000 in
theorem own_calls (x : S32) (c : List Value) (w : World) (okx : Nat → Prop) (h : Kd.FK k32 w okx x c) (hx : Fits x) :
    Calls Try.prog 21 #[.agg c.toArray] w fun e w' => ∃ c', e = .returned (.agg c'.toArray) ∧ Kd.FK k32 w' (fun k => w.heap.size ≤ k) x c' ∧ Below w.heap.size w w' := by
  obtain ⟨A, cc, rfl, hle, hC⟩ := k32_open (Kd.FK_now h)
  have C1 := Lib.hid (fun W (hb : Below w.heap.size w W) => CloneVar_calls A cc x.f1.f12 W (Kd.C_below hC hb) hx)
  clear h hx hC hle
  go_enter Try.func21, Try.ntmps21
  go_wp2_with (first | (go_at_call 31; refine (C1.out _ (below_alloc (below_alloc (Below.refl _ _) _) _)).mono ?_; rintro e w3 ⟨v, rfl, hr, hb⟩; obtain ⟨A', c', rfl⟩ := Kd.R_slice hr; have hA0 : w3.heap[w.heap.size]? = some (.cells #[.int .i64 x.f0, .int .i64 x.f1.f0, .int .i64 x.f1.f1, .int .u64 x.f1.f2, .int .i64 x.f1.f3, .int .u64 x.f1.f4, .int .u64 x.f1.f5, .int .u64 x.f1.f6, .int .i64 x.f1.f7, .int .i64 x.f1.f8, .string x.f1.f9, .string x.f1.f10, .string x.f1.f11, .slice A x.f1.f12.length cc] 32 (0, 0)) := blk_below (blk_alloc (blk_new w _) _) hb; have hZ0 : w3.heap[w.heap.size + 1]? = some (.cells #[.int .i64 0, .int .i64 0, .int .i64 0, .int .u64 0, .int .i64 0, .int .u64 0, .int .u64 0, .int .u64 0, .int .i64 0, .int .i64 0, .string ⟨#[]⟩, .string ⟨#[]⟩, .string ⟨#[]⟩, .slice none 0 0] 32 (0, 0)) := blk_below (heap_alloc2_new w _ _) hb; have HB := Lib.hid (below_then (below_alloc (below_alloc (Below.refl w.heap.size w) (.cells #[.int .i64 x.f0, .int .i64 x.f1.f0, .int .i64 x.f1.f1, .int .u64 x.f1.f2, .int .i64 x.f1.f3, .int .u64 x.f1.f4, .int .u64 x.f1.f5, .int .u64 x.f1.f6, .int .i64 x.f1.f7, .int .i64 x.f1.f8, .string x.f1.f9, .string x.f1.f10, .string x.f1.f11, .slice A x.f1.f12.length cc] 32)) (.cells #[.int .i64 0, .int .i64 0, .int .i64 0, .int .u64 0, .int .i64 0, .int .u64 0, .int .u64 0, .int .u64 0, .int .i64 0, .int .i64 0, .string ⟨#[]⟩, .string ⟨#[]⟩, .string ⟨#[]⟩, .slice none 0 0] 32)) (by simp; omega) hb); have HR := Lib.hid hr; have i13 := blk_cell hA0 13; have f13 := blk_frozen hA0 13; have HA := Lib.hid (show (w3.setCell ⟨w.heap.size, 13, none⟩ (.slice A' x.f1.f12.length c')).heap[w.heap.size]? = some (.cells #[.int .i64 x.f0, .int .i64 x.f1.f0, .int .i64 x.f1.f1, .int .u64 x.f1.f2, .int .i64 x.f1.f3, .int .u64 x.f1.f4, .int .u64 x.f1.f5, .int .u64 x.f1.f6, .int .i64 x.f1.f7, .int .i64 x.f1.f8, .string x.f1.f9, .string x.f1.f10, .string x.f1.f11, .slice A' x.f1.f12.length c'] 32 (0, 0)) from blk_set hA0 13 _); have HZ := Lib.hid ((Below.heap_setCell w3 ⟨w.heap.size, 13, none⟩ (.slice A' x.f1.f12.length c') (w.heap.size + 1) (by simp)).trans hZ0); clear hr hb hA0 hZ0) | ((with_reducible refine gate_dst (N := 9) rfl ?_); refine wpList_load_row rfl 32 (.tmp 1) rfl w.heap.size rfl 32 _ (0, 0) _ HA.out Try.underlying32 rfl (by kernel_rfl) ?_) | (refine wpList_store_row rfl rfl 32 (.tmp 2) (.tmp 9) rfl rfl rfl HZ.out (by kernel_rfl) rfl (one14 rfl) ?_; intro w4 hA4 hg4; have HA4 := Lib.hid hA4; have HG4 := Lib.hid hg4; clear hA4 hg4))
  have hMs := HR.out
  refine bodyPost_ret (results_cell_row rfl _ _ (w.heap.size + 1) 32 _ (0, 0) _ rfl HA4.out Try.underlying32 rfl (by kernel_rfl)) rfl ?_
  refine ⟨_, rfl, ?_, ?_⟩
  · have h1 := Kd.R_mono (ok' := fun k => w.heap.size + 2 ≤ k) (Kd.R_bound hMs) (fun k hk => by have := hk.2.1; simp only [World.size_alloc] at this; omega)
    have h2 := Kd.R_far (p := ⟨w.heap.size, 13, none⟩) h1 (fun k hk => by show k ≠ w.heap.size; omega) (.slice A' x.f1.f12.length c')
    have h3 := Kd.R_grown h2 HG4.out (fun k hk e => by injection e with e; omega)
    exact Kd.FK_mono (Kd.FK_of_M (k32_mkM w4 _ _ x h3)) (fun k hk => by omega)
  · exact Below.grown (HB.out.setCell (p := ⟨w.heap.size, 13, none⟩) (Nat.le_refl _) _) HG4.out (by have := HB.out.size; simpa using this) (fun k e => by injection e with e; omega)
end Go.Proofs.Ytijbpncekdiodaa
