/- at, with each closure. Laid by gen_mg.py. -/
import Derived.Test.YtijbpncekdiodaaMf
namespace Go.Proofs.Ytijbpncekdiodaa
open Go.RowKit Go.Proofs.YtijbpncekdiodaaW.PrintWords Go.Proofs.YtijbpncekdiodaaW.PrintLast Go.Proofs.YtijbpncekdiodaaW.PrintMore
open Go.Proofs.Ytijbpncekdiodaa.PMailMoves
set_option linter.unusedVariables false
set_option linter.unusedSimpArgs false

set_option maxRecDepth 100000 in
set_option maxHeartbeats 1000000 in
theorem at22_23 (g p q : Nat) (i : Int) (v : Value) (A : Option Addr) (n c : Nat) (w : World) (R : List Value → World → Prop) (hg : w.heap[g]? = some (.cells #[.slice A n c] 60 (0, 0))) (h0 : 0 ≤ i) (hi : i < n)
    (hdoes : ∀ W, Below w.heap.size w W → W.heap[w.heap.size]? = some (.cells zS.cells 32 (0, 0)) → w.heap.size + 2 = W.heap.size → Calls Try.prog 23 #[.pointer (some ⟨p, 0, none⟩), .pointer (some ⟨q, 0, none⟩)] W fun e w' => ∃ c, e = .returned (.tuple #[.agg c.toArray, .int .i64 0]) ∧ c.length = 14 ∧ (∀ u ∈ c, u.oneCell' = true) ∧ w'.heap[w.heap.size]? = some (.cells zS.cells 32 (0, 0)) ∧ R c w') :
    Calls Try.prog 22 #[.pointer (some ⟨g, 0, none⟩), .int .i64 i, .func (.func 23) #[] #[.pointer (some ⟨p, 0, none⟩), .pointer (some ⟨q, 0, none⟩)]] w fun e w' => ∃ c w1, e = .returned (.tuple #[.agg c.toArray, .int .i64 0]) ∧ c.length = 14 ∧ (∀ u ∈ c, u.oneCell' = true) ∧ R c w1 ∧ w1.grownBy w' (some w.heap.size) := by
  have i0 : ((w.alloc (.cells #[.int .i64 0, .int .i64 0, .int .i64 0, .int .u64 0, .int .i64 0, .int .u64 0, .int .u64 0, .int .u64 0, .int .i64 0, .int .i64 0, .string ⟨#[]⟩, .string ⟨#[]⟩, .string ⟨#[]⟩, .slice none 0 0] 32)).alloc (.cells #[.int .i64 0, .int .i64 0, .int .i64 0, .int .u64 0, .int .i64 0, .int .u64 0, .int .u64 0, .int .u64 0, .int .i64 0, .int .i64 0, .string ⟨#[]⟩, .string ⟨#[]⟩, .string ⟨#[]⟩, .slice none 0 0] 32)).cell? ⟨g, 0, none⟩ = some (.slice A n c) := (blk_cell (blk_alloc (blk_alloc hg _) _) 0).trans rfl
  have HD := Lib.hid (hdoes ((w.alloc (.cells #[.int .i64 0, .int .i64 0, .int .i64 0, .int .u64 0, .int .i64 0, .int .u64 0, .int .u64 0, .int .u64 0, .int .i64 0, .int .i64 0, .string ⟨#[]⟩, .string ⟨#[]⟩, .string ⟨#[]⟩, .slice none 0 0] 32)).alloc (.cells #[.int .i64 0, .int .i64 0, .int .i64 0, .int .u64 0, .int .i64 0, .int .u64 0, .int .u64 0, .int .u64 0, .int .i64 0, .int .i64 0, .string ⟨#[]⟩, .string ⟨#[]⟩, .string ⟨#[]⟩, .slice none 0 0] 32)) (below_alloc (below_alloc (Below.refl _ _) _) _) (blk_alloc (blk_new w _) _) (by simp))
  have hd1 : decide (i < 0) = false := by simp; omega
  have hd2 : decide ((n : Int) ≤ i) = false := by simp; omega
  clear hdoes hg
  go_enter Try.func22, Try.ntmps22
  go_wp2_with (first | (go_at_call 23; refine HD.out.mono ?_; rintro e w3 ⟨c', rfl, hl, h1, hz, hr⟩; have HL := Lib.hid hl; have H1 := Lib.hid h1; have HZ := Lib.hid hz; have HR := Lib.hid hr; clear hl h1 hz hr) | (refine wpList_store_row rfl rfl 32 (.tmp 6) (.tmp 28) rfl (g := w.heap.size) rfl rfl HZ.out (by rw [List.size_toArray, HL.out]; exact size32) (by show 14 = c'.toArray.size; rw [List.size_toArray]; exact HL.out.symm) H1.out ?_; intro w4 hz4 hg4; have HZ4 := Lib.hid hz4; have HG4 := Lib.hid hg4; clear hz4 hg4))
  refine bodyPost_ret (results_ct rfl _ _ w.heap.size 32 _ (0, 0) _ rfl HZ4.out Try.underlying32 rfl (by rw [List.size_toArray, HL.out]; exact size32)) rfl ?_
  exact ⟨_, _, rfl, HL.out, H1.out, HR.out, HG4.out⟩
set_option maxRecDepth 100000 in
set_option maxHeartbeats 1000000 in
theorem at22_27 (g p q : Nat) (i : Int) (v : Value) (A : Option Addr) (n c : Nat) (w : World) (R : List Value → World → Prop) (hg : w.heap[g]? = some (.cells #[.slice A n c] 60 (0, 0))) (h0 : 0 ≤ i) (hi : i < n)
    (hdoes : ∀ W, Below w.heap.size w W → W.heap[w.heap.size]? = some (.cells zS.cells 32 (0, 0)) → w.heap.size + 2 = W.heap.size → Calls Try.prog 27 #[.pointer (some ⟨p, 0, none⟩), .pointer (some ⟨q, 0, none⟩)] W fun e w' => ∃ c, e = .returned (.tuple #[.agg c.toArray, .int .i64 0]) ∧ c.length = 14 ∧ (∀ u ∈ c, u.oneCell' = true) ∧ w'.heap[w.heap.size]? = some (.cells zS.cells 32 (0, 0)) ∧ R c w') :
    Calls Try.prog 22 #[.pointer (some ⟨g, 0, none⟩), .int .i64 i, .func (.func 27) #[] #[.pointer (some ⟨p, 0, none⟩), .pointer (some ⟨q, 0, none⟩)]] w fun e w' => ∃ c w1, e = .returned (.tuple #[.agg c.toArray, .int .i64 0]) ∧ c.length = 14 ∧ (∀ u ∈ c, u.oneCell' = true) ∧ R c w1 ∧ w1.grownBy w' (some w.heap.size) := by
  have i0 : ((w.alloc (.cells #[.int .i64 0, .int .i64 0, .int .i64 0, .int .u64 0, .int .i64 0, .int .u64 0, .int .u64 0, .int .u64 0, .int .i64 0, .int .i64 0, .string ⟨#[]⟩, .string ⟨#[]⟩, .string ⟨#[]⟩, .slice none 0 0] 32)).alloc (.cells #[.int .i64 0, .int .i64 0, .int .i64 0, .int .u64 0, .int .i64 0, .int .u64 0, .int .u64 0, .int .u64 0, .int .i64 0, .int .i64 0, .string ⟨#[]⟩, .string ⟨#[]⟩, .string ⟨#[]⟩, .slice none 0 0] 32)).cell? ⟨g, 0, none⟩ = some (.slice A n c) := (blk_cell (blk_alloc (blk_alloc hg _) _) 0).trans rfl
  have HD := Lib.hid (hdoes ((w.alloc (.cells #[.int .i64 0, .int .i64 0, .int .i64 0, .int .u64 0, .int .i64 0, .int .u64 0, .int .u64 0, .int .u64 0, .int .i64 0, .int .i64 0, .string ⟨#[]⟩, .string ⟨#[]⟩, .string ⟨#[]⟩, .slice none 0 0] 32)).alloc (.cells #[.int .i64 0, .int .i64 0, .int .i64 0, .int .u64 0, .int .i64 0, .int .u64 0, .int .u64 0, .int .u64 0, .int .i64 0, .int .i64 0, .string ⟨#[]⟩, .string ⟨#[]⟩, .string ⟨#[]⟩, .slice none 0 0] 32)) (below_alloc (below_alloc (Below.refl _ _) _) _) (blk_alloc (blk_new w _) _) (by simp))
  have hd1 : decide (i < 0) = false := by simp; omega
  have hd2 : decide ((n : Int) ≤ i) = false := by simp; omega
  clear hdoes hg
  go_enter Try.func22, Try.ntmps22
  go_wp2_with (first | (go_at_call 27; refine HD.out.mono ?_; rintro e w3 ⟨c', rfl, hl, h1, hz, hr⟩; have HL := Lib.hid hl; have H1 := Lib.hid h1; have HZ := Lib.hid hz; have HR := Lib.hid hr; clear hl h1 hz hr) | (refine wpList_store_row rfl rfl 32 (.tmp 6) (.tmp 28) rfl (g := w.heap.size) rfl rfl HZ.out (by rw [List.size_toArray, HL.out]; exact size32) (by show 14 = c'.toArray.size; rw [List.size_toArray]; exact HL.out.symm) H1.out ?_; intro w4 hz4 hg4; have HZ4 := Lib.hid hz4; have HG4 := Lib.hid hg4; clear hz4 hg4))
  refine bodyPost_ret (results_ct rfl _ _ w.heap.size 32 _ (0, 0) _ rfl HZ4.out Try.underlying32 rfl (by rw [List.size_toArray, HL.out]; exact size32)) rfl ?_
  exact ⟨_, _, rfl, HL.out, H1.out, HR.out, HG4.out⟩
set_option maxRecDepth 100000 in
theorem at22_nil (i : Int) (f : Value) (w : World) : Calls Try.prog 22 #[.pointer none, .int .i64 i, f] w fun e w' => e = .returned (.tuple #[zS, .int .i64 1]) ∧ Below w.heap.size w w' := by
  go_enter Try.func22, Try.ntmps22
  go_wp2_with fail
  refine bodyPost_ret (results_ct rfl _ _ w.heap.size 32 #[.int .i64 0, .int .i64 0, .int .i64 0, .int .u64 0, .int .i64 0, .int .u64 0, .int .u64 0, .int .u64 0, .int .i64 0, .int .i64 0, .string ⟨#[]⟩, .string ⟨#[]⟩, .string ⟨#[]⟩, .slice none 0 0] (0, 0) _ rfl (heap_alloc2_old w _ _) Try.underlying32 rfl (by kernel_rfl)) rfl ?_
  exact ⟨rfl, below_alloc (below_alloc (Below.refl _ _) _) _⟩
set_option maxRecDepth 100000 in
theorem at28_nil (i : Int) (f : Value) (w : World) : Calls Try.prog 28 #[.pointer none, .int .i64 i, f] w fun e w' => e = .returned (.tuple #[.bool false, .int .i64 1]) ∧ w = w' := by
  go_enter Try.func28, Try.ntmps28
  go_wp2_with fail
  go_ret2
  exact ⟨rfl, rfl⟩
set_option maxRecDepth 100000 in
theorem at22_out (g : Nat) (i : Int) (f : Value) (A : Option Addr) (n c : Nat) (w : World) (hg : w.heap[g]? = some (.cells #[.slice A n c] 60 (0, 0))) (hi : i < 0 ∨ (n : Int) ≤ i) :
    Calls Try.prog 22 #[.pointer (some ⟨g, 0, none⟩), .int .i64 i, f] w fun e w' => e = .returned (.tuple #[zS, .int .i64 5]) ∧ Below w.heap.size w w' := by
  have i0 : ((w.alloc (.cells #[.int .i64 0, .int .i64 0, .int .i64 0, .int .u64 0, .int .i64 0, .int .u64 0, .int .u64 0, .int .u64 0, .int .i64 0, .int .i64 0, .string ⟨#[]⟩, .string ⟨#[]⟩, .string ⟨#[]⟩, .slice none 0 0] 32)).alloc (.cells #[.int .i64 0, .int .i64 0, .int .i64 0, .int .u64 0, .int .i64 0, .int .u64 0, .int .u64 0, .int .u64 0, .int .i64 0, .int .i64 0, .string ⟨#[]⟩, .string ⟨#[]⟩, .string ⟨#[]⟩, .slice none 0 0] 32)).cell? ⟨g, 0, none⟩ = some (.slice A n c) := (blk_cell (blk_alloc (blk_alloc hg _) _) 0).trans rfl
  clear hg
  by_cases h0 : i < 0
  · have hd1 : decide (i < 0) = true := by simpa using h0
    clear hi
    go_enter Try.func22, Try.ntmps22
    go_wp2_with fail
    refine bodyPost_ret (results_ct rfl _ _ w.heap.size 32 #[.int .i64 0, .int .i64 0, .int .i64 0, .int .u64 0, .int .i64 0, .int .u64 0, .int .u64 0, .int .u64 0, .int .i64 0, .int .i64 0, .string ⟨#[]⟩, .string ⟨#[]⟩, .string ⟨#[]⟩, .slice none 0 0] (0, 0) _ rfl (heap_alloc2_old w _ _) Try.underlying32 rfl (by kernel_rfl)) rfl ?_
    exact ⟨rfl, below_alloc (below_alloc (Below.refl _ _) _) _⟩
  · have hd1 : decide (i < 0) = false := by simpa using h0
    have hd2 : decide ((n : Int) ≤ i) = true := by simp; omega
    clear hi h0
    go_enter Try.func22, Try.ntmps22
    go_wp2_with fail
    refine bodyPost_ret (results_ct rfl _ _ w.heap.size 32 #[.int .i64 0, .int .i64 0, .int .i64 0, .int .u64 0, .int .i64 0, .int .u64 0, .int .u64 0, .int .u64 0, .int .i64 0, .int .i64 0, .string ⟨#[]⟩, .string ⟨#[]⟩, .string ⟨#[]⟩, .slice none 0 0] (0, 0) _ rfl (heap_alloc2_old w _ _) Try.underlying32 rfl (by kernel_rfl)) rfl ?_
    exact ⟨rfl, below_alloc (below_alloc (Below.refl _ _) _) _⟩
set_option maxRecDepth 100000 in
theorem at28_out (g : Nat) (i : Int) (f : Value) (A : Option Addr) (n c : Nat) (w : World) (hg : w.heap[g]? = some (.cells #[.slice A n c] 60 (0, 0))) (hi : i < 0 ∨ (n : Int) ≤ i) :
    Calls Try.prog 28 #[.pointer (some ⟨g, 0, none⟩), .int .i64 i, f] w fun e w' => e = .returned (.tuple #[.bool false, .int .i64 5]) ∧ w = w' := by
  have i0 : w.cell? ⟨g, 0, none⟩ = some (.slice A n c) := (blk_cell hg 0).trans rfl
  clear hg
  by_cases h0 : i < 0
  · have hd1 : decide (i < 0) = true := by simpa using h0
    clear hi
    go_enter Try.func28, Try.ntmps28
    go_wp2_with fail
    go_ret2
    exact ⟨rfl, rfl⟩
  · have hd1 : decide (i < 0) = false := by simpa using h0
    have hd2 : decide ((n : Int) ≤ i) = true := by simp; omega
    clear hi h0
    go_enter Try.func28, Try.ntmps28
    go_wp2_with fail
    go_ret2
    exact ⟨rfl, rfl⟩
set_option maxRecDepth 100000 in
theorem at28_in (g p q : Nat) (i : Int) (A : Option Addr) (n c : Nat) (w : World) (R : World → Prop) (hg : w.heap[g]? = some (.cells #[.slice A n c] 60 (0, 0))) (h0 : 0 ≤ i) (hi : i < n)
    (hdoes : Calls Try.prog 29 #[.pointer (some ⟨p, 0, none⟩), .pointer (some ⟨q, 0, none⟩)] w fun e w' => e = .returned (.tuple #[.bool true, .int .i64 0]) ∧ R w') :
    Calls Try.prog 28 #[.pointer (some ⟨g, 0, none⟩), .int .i64 i, .func (.func 29) #[] #[.pointer (some ⟨p, 0, none⟩), .pointer (some ⟨q, 0, none⟩)]] w fun e w' => e = .returned (.tuple #[.bool true, .int .i64 0]) ∧ R w' := by
  have i0 : w.cell? ⟨g, 0, none⟩ = some (.slice A n c) := (blk_cell hg 0).trans rfl
  have HD := Lib.hid hdoes
  have hd1 : decide (i < 0) = false := by simp; omega
  have hd2 : decide ((n : Int) ≤ i) = false := by simp; omega
  clear hdoes hg
  go_enter Try.func28, Try.ntmps28
  go_wp2_with (go_at_call 29; refine HD.out.mono ?_; rintro e w3 ⟨rfl, hr⟩; have HR := Lib.hid hr; clear hr)
  go_ret2
  exact ⟨rfl, HR.out⟩
end Go.Proofs.Ytijbpncekdiodaa
