/- Take, Peek, Copy, Len, New. Laid by gen_mh.py. -/
import Derived.Test.YtijbpncekdiodaaMg
namespace Go.Proofs.Ytijbpncekdiodaa
open Go.RowKit Go.Proofs.YtijbpncekdiodaaW.PrintWords Go.Proofs.YtijbpncekdiodaaW.PrintLast Go.Proofs.YtijbpncekdiodaaW.PrintMore
open Go.Proofs.Ytijbpncekdiodaa.PMailMoves
set_option linter.unusedVariables false
set_option linter.unusedSimpArgs false

/-- A box: its slice, what is in it. -/
def BoxV (W : World) (g base : Nat) (ok : Nat → Prop) (v : Value) (xs : List S32) : Prop := W.heap[g]? = some (.cells #[v] 60 (0, 0)) ∧ Kd.N k32 32 W base ok v xs ∧ (∀ k, ok k → k ≠ g) ∧ base ≤ g
section
variable {W W' : World} {g base b m : Nat} {ok ok' : Nat → Prop} {v : Value} {xs : List S32}
theorem BoxV.below (h : BoxV W g base ok v xs) (hb : Below W.heap.size W W') : BoxV W' g base ok v xs := ⟨blk_below h.1 hb, Kd.N_below h.2.1 hb, h.2.2⟩
theorem BoxV.lt (h : BoxV W g base ok v xs) : g < W.heap.size := blk_lt h.1
theorem BoxV.tight (h : BoxV W g base ok v xs) (hm : W.heap.size ≤ m) : BoxV W g base (fun k => (ok k ∧ k < W.heap.size) ∨ m ≤ k) v xs := by
  have hl := h.lt
  exact ⟨h.1, Kd.N_mono (Kd.N_bound h.2.1) (fun k hk => .inl hk), fun k hk => by rcases hk with hk | hk; exact h.2.2.1 k hk.1; omega, h.2.2.2⟩
theorem BoxV.mono (h : BoxV W g base ok v xs) (hok : ∀ k, ok k → ok' k) (hg : ∀ k, ok' k → k ≠ g) : BoxV W g base ok' v xs := ⟨h.1, Kd.N_mono h.2.1 hok, hg, h.2.2.2⟩
theorem BoxV.bound (h : BoxV W g base ok v xs) : BoxV W g base (fun k => ok k ∧ k < W.heap.size) v xs := ⟨h.1, Kd.N_bound h.2.1, fun k hk => h.2.2.1 k hk.1, h.2.2.2⟩
theorem BoxV.grown (h : BoxV W g base ok v xs) (hg : W.grownBy W' (some b)) (hb : ¬ ok b) (hbg : b ≠ g) : BoxV W' g base ok v xs :=
  ⟨blk_grown h.1 hg (by intro e; injection e with e; omega), Kd.N_grown h.2.1 hg (fun k hk e => by injection e with e; subst e; exact hb hk), h.2.2⟩
theorem BoxV.slice (h : BoxV W g base ok v xs) : ∃ A c, v = .slice A xs.length c := Kd.N_slice h.2.1
end

theorem calls_world {P : Program} {f : FuncId} {args : Array Value} {w w' : World} {Q : Ending → World → Prop} (h : w = w') (hc : Calls P f args w' Q) : Calls P f args w Q := h ▸ hc
set_option maxRecDepth 100000 in
set_option maxHeartbeats 1000000 in
theorem Take_in (g base : Nat) (i : Int) (xs : List S32) (w : World) (ok : Nat → Prop) (v : Value) (hbox : BoxV w g base ok v xs) (hfresh : ∀ k, w.heap.size ≤ k → ok k) (h0 : 0 ≤ i) (hi : i < xs.length) (hfit : ∀ x ∈ xs, Fits x) (hl : xs.length * 152 ≤ 140737488355328) :
    Calls Try.prog 11 #[.pointer (some ⟨g, 0, none⟩), .int .i64 i] w fun e w' => ∃ c', e = .returned (.tuple #[.agg c'.toArray, .int .i64 0]) ∧ Kd.FK k32 w' (fun k => w.heap.size ≤ k) (xs.getD i.toNat z32) c' ∧ (∃ v', BoxV w' g base ok v' (xs.eraseIdx i.toNat) ∧ ∀ k, v'.ownBlock = some k → w.heap.size ≤ k) ∧ KeepBut w w' g none ∧ Below base w w' := by
  have hlt := hbox.lt
  have hb3 : Below w.heap.size w (((w.alloc (.cells #[.pointer (some ⟨g, 0, none⟩)] 24)).alloc (.cells #[.int .i64 i] 3)).alloc (.cells #[.int .i64 0, .int .i64 0, .int .i64 0, .int .u64 0, .int .i64 0, .int .u64 0, .int .u64 0, .int .u64 0, .int .i64 0, .int .i64 0, .string ⟨#[]⟩, .string ⟨#[]⟩, .string ⟨#[]⟩, .slice none 0 0] 32)) := below_alloc (below_alloc (below_alloc (Below.refl _ _) _) _) _
  have hp3 : (((w.alloc (.cells #[.pointer (some ⟨g, 0, none⟩)] 24)).alloc (.cells #[.int .i64 i] 3)).alloc (.cells #[.int .i64 0, .int .i64 0, .int .i64 0, .int .u64 0, .int .i64 0, .int .u64 0, .int .u64 0, .int .u64 0, .int .i64 0, .int .i64 0, .string ⟨#[]⟩, .string ⟨#[]⟩, .string ⟨#[]⟩, .slice none 0 0] 32)).heap[w.heap.size]? = some (.cells #[.pointer (some ⟨g, 0, none⟩)] 24 (0, 0)) := blk_alloc (blk_alloc (blk_new w _) _) _
  have hq3 : (((w.alloc (.cells #[.pointer (some ⟨g, 0, none⟩)] 24)).alloc (.cells #[.int .i64 i] 3)).alloc (.cells #[.int .i64 0, .int .i64 0, .int .i64 0, .int .u64 0, .int .i64 0, .int .u64 0, .int .u64 0, .int .u64 0, .int .i64 0, .int .i64 0, .string ⟨#[]⟩, .string ⟨#[]⟩, .string ⟨#[]⟩, .slice none 0 0] 32)).heap[w.heap.size + 1]? = some (.cells #[.int .i64 i] 3 (0, 0)) := blk_alloc (heap_alloc2_new w _ _) _
  have hz3 : (((w.alloc (.cells #[.pointer (some ⟨g, 0, none⟩)] 24)).alloc (.cells #[.int .i64 i] 3)).alloc (.cells #[.int .i64 0, .int .i64 0, .int .i64 0, .int .u64 0, .int .i64 0, .int .u64 0, .int .u64 0, .int .u64 0, .int .i64 0, .int .i64 0, .string ⟨#[]⟩, .string ⟨#[]⟩, .string ⟨#[]⟩, .slice none 0 0] 32)).heap[w.heap.size + 2]? = some (.cells zS.cells 32 (0, 0)) := by
    have h := blk_new ((w.alloc (.cells #[.pointer (some ⟨g, 0, none⟩)] 24)).alloc (.cells #[.int .i64 i] 3)) (.cells #[.int .i64 0, .int .i64 0, .int .i64 0, .int .u64 0, .int .i64 0, .int .u64 0, .int .u64 0, .int .u64 0, .int .i64 0, .int .i64 0, .string ⟨#[]⟩, .string ⟨#[]⟩, .string ⟨#[]⟩, .slice none 0 0] 32)
    rw [World.size_alloc, World.size_alloc] at h
    exact h
  have hs3 : (((w.alloc (.cells #[.pointer (some ⟨g, 0, none⟩)] 24)).alloc (.cells #[.int .i64 i] 3)).alloc (.cells #[.int .i64 0, .int .i64 0, .int .i64 0, .int .u64 0, .int .i64 0, .int .u64 0, .int .u64 0, .int .u64 0, .int .i64 0, .int .i64 0, .string ⟨#[]⟩, .string ⟨#[]⟩, .string ⟨#[]⟩, .slice none 0 0] 32)).heap.size = w.heap.size + 3 := by simp
  have HD : ∃ A n c, (((w.alloc (.cells #[.pointer (some ⟨g, 0, none⟩)] 24)).alloc (.cells #[.int .i64 i] 3)).alloc (.cells #[.int .i64 0, .int .i64 0, .int .i64 0, .int .u64 0, .int .i64 0, .int .u64 0, .int .u64 0, .int .u64 0, .int .i64 0, .int .i64 0, .string ⟨#[]⟩, .string ⟨#[]⟩, .string ⟨#[]⟩, .slice none 0 0] 32)).heap[g]? = some (.cells #[.slice A n c] 60 (0, 0)) ∧ n = xs.length := by
    obtain ⟨A, c, rfl⟩ := hbox.slice
    exact ⟨A, _, c, blk_below hbox.1 hb3, rfl⟩
  obtain ⟨A, n, c, hg3, rfl⟩ := HD
  have hbx := (hbox.tight (m := w.heap.size + 5) (by omega)).below hb3
  have hdoes := at22_23 g w.heap.size (w.heap.size + 1) i (.int .i64 0) A xs.length c (((w.alloc (.cells #[.pointer (some ⟨g, 0, none⟩)] 24)).alloc (.cells #[.int .i64 i] 3)).alloc (.cells #[.int .i64 0, .int .i64 0, .int .i64 0, .int .u64 0, .int .i64 0, .int .u64 0, .int .u64 0, .int .u64 0, .int .i64 0, .int .i64 0, .string ⟨#[]⟩, .string ⟨#[]⟩, .string ⟨#[]⟩, .slice none 0 0] 32)) (fun c w' => Kd.FK k32 w' (fun k => w.heap.size + 5 ≤ k) (xs.getD i.toNat z32) c ∧ (∃ v', BoxV w' g base (fun k => (ok k ∧ k < w.heap.size) ∨ w.heap.size + 5 ≤ k) v' (xs.eraseIdx i.toNat) ∧ ∀ k, v'.ownBlock = some k → w.heap.size ≤ k) ∧ KeepBut (((w.alloc (.cells #[.pointer (some ⟨g, 0, none⟩)] 24)).alloc (.cells #[.int .i64 i] 3)).alloc (.cells #[.int .i64 0, .int .i64 0, .int .i64 0, .int .u64 0, .int .i64 0, .int .u64 0, .int .u64 0, .int .u64 0, .int .i64 0, .int .i64 0, .string ⟨#[]⟩, .string ⟨#[]⟩, .string ⟨#[]⟩, .slice none 0 0] 32)) w' g none ∧ Below base (((w.alloc (.cells #[.pointer (some ⟨g, 0, none⟩)] 24)).alloc (.cells #[.int .i64 i] 3)).alloc (.cells #[.int .i64 0, .int .i64 0, .int .i64 0, .int .u64 0, .int .i64 0, .int .u64 0, .int .u64 0, .int .u64 0, .int .i64 0, .int .i64 0, .string ⟨#[]⟩, .string ⟨#[]⟩, .string ⟨#[]⟩, .slice none 0 0] 32)) w') hg3 h0 hi (by
    intro W hbW hzW hsW
    rw [hs3] at hsW hzW
    have hbxW := hbx.below hbW
    obtain ⟨h1, h2, h3, h4⟩ := hbxW
    refine (Take1_calls w.heap.size (w.heap.size + 1) g base i v xs W _ (blk_below hp3 hbW) (blk_below hq3 hbW) h1 h2 h0 hi hfit h3 (fun k hk => .inr (by omega)) h4 hl).mono ?_
    rintro e w' ⟨c', v', rfl, hfk, hg', hn', hf', hk', hb'⟩
    refine ⟨c', rfl, k32.K_len (Kd.FK_now hfk), k32.K_one (Kd.FK_now hfk), ?_, Kd.FK_mono hfk (fun k hk => by omega), ⟨v', ⟨hg', hn', h3, h4⟩, fun k e => by have := hf' k e; omega⟩, (KeepBut.of_below hbW g none).trans hk' (.inl rfl), (hbW.mono (by have := h4; omega)).trans hb'⟩
    rw [hs3]
    exact hk'.blk hzW (by omega) (by simp))
  generalize hW3 : (((w.alloc (.cells #[.pointer (some ⟨g, 0, none⟩)] 24)).alloc (.cells #[.int .i64 i] 3)).alloc (.cells #[.int .i64 0, .int .i64 0, .int .i64 0, .int .u64 0, .int .i64 0, .int .u64 0, .int .u64 0, .int .u64 0, .int .i64 0, .int .i64 0, .string ⟨#[]⟩, .string ⟨#[]⟩, .string ⟨#[]⟩, .slice none 0 0] 32)) = W3 at hb3 hp3 hq3 hz3 hs3 hg3 hbx hdoes
  have HDO := Lib.hid hdoes
  have HW3 := Lib.hid hW3
  have HZ3 := Lib.hid hz3
  have HS3 := Lib.hid hs3
  have HB3 := Lib.hid hb3
  have HBX := Lib.hid hbx
  have HBOX := Lib.hid hbox
  have HLT := Lib.hid hlt
  have HFR := Lib.hid hfresh
  clear hdoes hW3 hz3 hp3 hq3 hs3 hb3 hbx hbox hlt hfresh hg3 hfit hl
  go_enter Try.func11, Try.ntmps11
  go_wp2_with (first | (go_at_call 22; refine (calls_world HW3.out HDO.out).mono ?_; rintro e w6 ⟨c', w5, rfl, hl5, h15, hr5, hg5⟩; have HL5 := Lib.hid hl5; have H15 := Lib.hid h15; have HR5 := Lib.hid hr5; have HG5 := Lib.hid hg5; have HZ6 := Lib.hid (show w6.heap[w.heap.size + 2]? = some (.cells zS.cells 32 (0, 0)) from blk_grown (hr5.2.2.1.blk HZ3.out (by have := HLT.out; omega) (by simp)) hg5 (by intro e; injection e with e; have := HS3.out; omega)); clear hl5 h15 hr5 hg5) | (refine wpList_store_row rfl rfl 32 (.tmp 4) (.tmp 10) rfl (g := w.heap.size + 2) rfl rfl HZ6.out (by rw [List.size_toArray, HL5.out]; exact size32) (by show 14 = c'.toArray.size; rw [List.size_toArray]; exact HL5.out.symm) H15.out ?_; intro w7 hz7 hg7; have HZ7 := Lib.hid hz7; have HG7 := Lib.hid hg7; clear hz7 hg7))
  refine bodyPost_ret (results_ct rfl _ _ (w.heap.size + 2) 32 _ (0, 0) _ rfl HZ7.out Try.underlying32 rfl (by rw [List.size_toArray, HL5.out]; exact size32)) rfl ?_
  have hs := HS3.out
  have hlt := HLT.out
  obtain ⟨hfk, ⟨v', hbx, hf'⟩, hk5, hb5⟩ := HR5.out
  have hsz5 := hk5.1
  have hbg : base ≤ g := hbx.2.2.2
  refine ⟨_, rfl, ?_, ?_, ?_, ?_⟩
  · exact Kd.FK_mono (Kd.FK_grown (Kd.FK_grown hfk HG5.out (fun k hk e => by injection e with e; omega)) HG7.out (fun k hk e => by injection e with e; omega)) (fun k hk => by omega)
  · exact ⟨v', ((hbx.grown HG5.out (by rintro (h | h) <;> omega) (by omega)).grown HG7.out (by rintro (h | h) <;> omega) (by omega)).mono (fun k hk => by rcases hk with hk | hk; exact hk.1; exact HFR.out k (by omega)) HBOX.out.2.2.1, hf'⟩
  · exact (((KeepBut.of_below HB3.out g none).trans hk5 (.inl rfl)).trans (KeepBut.of_grown HG5.out g) (.inr ⟨_, rfl, by omega⟩)).trans (KeepBut.of_grown HG7.out g) (.inr ⟨_, rfl, by omega⟩)
  · exact (((HB3.out.mono (by omega)).trans hb5).grown HG5.out (by omega) (fun k e => by injection e with e; omega)).grown HG7.out (by have := HG5.out.size; omega) (fun k e => by injection e with e; omega)
set_option maxRecDepth 100000 in
set_option maxHeartbeats 1000000 in
theorem Peek_in (g base : Nat) (i : Int) (xs : List S32) (w : World) (ok : Nat → Prop) (v : Value) (hbox : BoxV w g base ok v xs) (hfresh : ∀ k, w.heap.size ≤ k → ok k) (h0 : 0 ≤ i) (hi : i < xs.length) (hfit : ∀ x ∈ xs, Fits x) (hl : xs.length * 152 ≤ 140737488355328) :
    Calls Try.prog 14 #[.pointer (some ⟨g, 0, none⟩), .int .i64 i] w fun e w' => ∃ c', e = .returned (.tuple #[.agg c'.toArray, .int .i64 0]) ∧ Kd.FK k32 w' (fun k => w.heap.size ≤ k) (xs.getD i.toNat z32) c' ∧ Below w.heap.size w w' := by
  have hlt := hbox.lt
  have hb3 : Below w.heap.size w (((w.alloc (.cells #[.pointer (some ⟨g, 0, none⟩)] 24)).alloc (.cells #[.int .i64 i] 3)).alloc (.cells #[.int .i64 0, .int .i64 0, .int .i64 0, .int .u64 0, .int .i64 0, .int .u64 0, .int .u64 0, .int .u64 0, .int .i64 0, .int .i64 0, .string ⟨#[]⟩, .string ⟨#[]⟩, .string ⟨#[]⟩, .slice none 0 0] 32)) := below_alloc (below_alloc (below_alloc (Below.refl _ _) _) _) _
  have hp3 : (((w.alloc (.cells #[.pointer (some ⟨g, 0, none⟩)] 24)).alloc (.cells #[.int .i64 i] 3)).alloc (.cells #[.int .i64 0, .int .i64 0, .int .i64 0, .int .u64 0, .int .i64 0, .int .u64 0, .int .u64 0, .int .u64 0, .int .i64 0, .int .i64 0, .string ⟨#[]⟩, .string ⟨#[]⟩, .string ⟨#[]⟩, .slice none 0 0] 32)).heap[w.heap.size]? = some (.cells #[.pointer (some ⟨g, 0, none⟩)] 24 (0, 0)) := blk_alloc (blk_alloc (blk_new w _) _) _
  have hq3 : (((w.alloc (.cells #[.pointer (some ⟨g, 0, none⟩)] 24)).alloc (.cells #[.int .i64 i] 3)).alloc (.cells #[.int .i64 0, .int .i64 0, .int .i64 0, .int .u64 0, .int .i64 0, .int .u64 0, .int .u64 0, .int .u64 0, .int .i64 0, .int .i64 0, .string ⟨#[]⟩, .string ⟨#[]⟩, .string ⟨#[]⟩, .slice none 0 0] 32)).heap[w.heap.size + 1]? = some (.cells #[.int .i64 i] 3 (0, 0)) := blk_alloc (heap_alloc2_new w _ _) _
  have hz3 : (((w.alloc (.cells #[.pointer (some ⟨g, 0, none⟩)] 24)).alloc (.cells #[.int .i64 i] 3)).alloc (.cells #[.int .i64 0, .int .i64 0, .int .i64 0, .int .u64 0, .int .i64 0, .int .u64 0, .int .u64 0, .int .u64 0, .int .i64 0, .int .i64 0, .string ⟨#[]⟩, .string ⟨#[]⟩, .string ⟨#[]⟩, .slice none 0 0] 32)).heap[w.heap.size + 2]? = some (.cells zS.cells 32 (0, 0)) := by
    have h := blk_new ((w.alloc (.cells #[.pointer (some ⟨g, 0, none⟩)] 24)).alloc (.cells #[.int .i64 i] 3)) (.cells #[.int .i64 0, .int .i64 0, .int .i64 0, .int .u64 0, .int .i64 0, .int .u64 0, .int .u64 0, .int .u64 0, .int .i64 0, .int .i64 0, .string ⟨#[]⟩, .string ⟨#[]⟩, .string ⟨#[]⟩, .slice none 0 0] 32)
    rw [World.size_alloc, World.size_alloc] at h
    exact h
  have hs3 : (((w.alloc (.cells #[.pointer (some ⟨g, 0, none⟩)] 24)).alloc (.cells #[.int .i64 i] 3)).alloc (.cells #[.int .i64 0, .int .i64 0, .int .i64 0, .int .u64 0, .int .i64 0, .int .u64 0, .int .u64 0, .int .u64 0, .int .i64 0, .int .i64 0, .string ⟨#[]⟩, .string ⟨#[]⟩, .string ⟨#[]⟩, .slice none 0 0] 32)).heap.size = w.heap.size + 3 := by simp
  have HD : ∃ A n c, (((w.alloc (.cells #[.pointer (some ⟨g, 0, none⟩)] 24)).alloc (.cells #[.int .i64 i] 3)).alloc (.cells #[.int .i64 0, .int .i64 0, .int .i64 0, .int .u64 0, .int .i64 0, .int .u64 0, .int .u64 0, .int .u64 0, .int .i64 0, .int .i64 0, .string ⟨#[]⟩, .string ⟨#[]⟩, .string ⟨#[]⟩, .slice none 0 0] 32)).heap[g]? = some (.cells #[.slice A n c] 60 (0, 0)) ∧ n = xs.length := by
    obtain ⟨A, c, rfl⟩ := hbox.slice
    exact ⟨A, _, c, blk_below hbox.1 hb3, rfl⟩
  obtain ⟨A, n, c, hg3, rfl⟩ := HD
  have hbx := (hbox.tight (m := w.heap.size + 5) (by omega)).below hb3
  have hdoes := at22_27 g w.heap.size (w.heap.size + 1) i (.int .i64 0) A xs.length c (((w.alloc (.cells #[.pointer (some ⟨g, 0, none⟩)] 24)).alloc (.cells #[.int .i64 i] 3)).alloc (.cells #[.int .i64 0, .int .i64 0, .int .i64 0, .int .u64 0, .int .i64 0, .int .u64 0, .int .u64 0, .int .u64 0, .int .i64 0, .int .i64 0, .string ⟨#[]⟩, .string ⟨#[]⟩, .string ⟨#[]⟩, .slice none 0 0] 32)) (fun c w' => Kd.FK k32 w' (fun k => w.heap.size + 5 ≤ k) (xs.getD i.toNat z32) c ∧ Below (((w.alloc (.cells #[.pointer (some ⟨g, 0, none⟩)] 24)).alloc (.cells #[.int .i64 i] 3)).alloc (.cells #[.int .i64 0, .int .i64 0, .int .i64 0, .int .u64 0, .int .i64 0, .int .u64 0, .int .u64 0, .int .u64 0, .int .i64 0, .int .i64 0, .string ⟨#[]⟩, .string ⟨#[]⟩, .string ⟨#[]⟩, .slice none 0 0] 32)).heap.size (((w.alloc (.cells #[.pointer (some ⟨g, 0, none⟩)] 24)).alloc (.cells #[.int .i64 i] 3)).alloc (.cells #[.int .i64 0, .int .i64 0, .int .i64 0, .int .u64 0, .int .i64 0, .int .u64 0, .int .u64 0, .int .u64 0, .int .i64 0, .int .i64 0, .string ⟨#[]⟩, .string ⟨#[]⟩, .string ⟨#[]⟩, .slice none 0 0] 32)) w') hg3 h0 hi (by
    intro W hbW hzW hsW
    rw [hs3] at hsW hzW
    have hbxW := hbx.below hbW
    obtain ⟨h1, h2, h3, h4⟩ := hbxW
    refine (Peek1_calls w.heap.size (w.heap.size + 1) g base i v xs W _ (blk_below hp3 hbW) (blk_below hq3 hbW) h1 h2 h0 hi hfit).mono ?_
    rintro e w' ⟨c', rfl, hfk, hb'⟩
    refine ⟨c', rfl, k32.K_len (Kd.FK_now hfk), k32.K_one (Kd.FK_now hfk), ?_, Kd.FK_mono hfk (fun k hk => by omega), hbW.trans (hb'.mono (by omega))⟩
    rw [hs3]
    exact blk_below hzW hb')
  generalize hW3 : (((w.alloc (.cells #[.pointer (some ⟨g, 0, none⟩)] 24)).alloc (.cells #[.int .i64 i] 3)).alloc (.cells #[.int .i64 0, .int .i64 0, .int .i64 0, .int .u64 0, .int .i64 0, .int .u64 0, .int .u64 0, .int .u64 0, .int .i64 0, .int .i64 0, .string ⟨#[]⟩, .string ⟨#[]⟩, .string ⟨#[]⟩, .slice none 0 0] 32)) = W3 at hb3 hp3 hq3 hz3 hs3 hg3 hbx hdoes
  have HDO := Lib.hid hdoes
  have HW3 := Lib.hid hW3
  have HZ3 := Lib.hid hz3
  have HS3 := Lib.hid hs3
  have HB3 := Lib.hid hb3
  have HBX := Lib.hid hbx
  have HBOX := Lib.hid hbox
  have HLT := Lib.hid hlt
  have HFR := Lib.hid hfresh
  clear hdoes hW3 hz3 hp3 hq3 hs3 hb3 hbx hbox hlt hfresh hg3 hfit hl
  go_enter Try.func14, Try.ntmps14
  go_wp2_with (first | (go_at_call 22; refine (calls_world HW3.out HDO.out).mono ?_; rintro e w6 ⟨c', w5, rfl, hl5, h15, hr5, hg5⟩; have HL5 := Lib.hid hl5; have H15 := Lib.hid h15; have HR5 := Lib.hid hr5; have HG5 := Lib.hid hg5; have HZ6 := Lib.hid (show w6.heap[w.heap.size + 2]? = some (.cells zS.cells 32 (0, 0)) from blk_grown (blk_below HZ3.out hr5.2) hg5 (by intro e; injection e with e; have := HS3.out; omega)); clear hl5 h15 hr5 hg5) | (refine wpList_store_row rfl rfl 32 (.tmp 4) (.tmp 10) rfl (g := w.heap.size + 2) rfl rfl HZ6.out (by rw [List.size_toArray, HL5.out]; exact size32) (by show 14 = c'.toArray.size; rw [List.size_toArray]; exact HL5.out.symm) H15.out ?_; intro w7 hz7 hg7; have HZ7 := Lib.hid hz7; have HG7 := Lib.hid hg7; clear hz7 hg7))
  refine bodyPost_ret (results_ct rfl _ _ (w.heap.size + 2) 32 _ (0, 0) _ rfl HZ7.out Try.underlying32 rfl (by rw [List.size_toArray, HL5.out]; exact size32)) rfl ?_
  have hs := HS3.out
  have hlt := HLT.out
  obtain ⟨hfk, hb5⟩ := HR5.out
  have hsz5 := hb5.size
  refine ⟨_, rfl, ?_, ?_⟩
  · exact Kd.FK_mono (Kd.FK_grown (Kd.FK_grown hfk HG5.out (fun k hk e => by injection e with e; omega)) HG7.out (fun k hk e => by injection e with e; omega)) (fun k hk => by omega)
  · exact ((HB3.out.trans (hb5.mono (by omega))).grown HG5.out (by omega) (fun k e => by injection e with e; omega)).grown HG7.out (by have := HG5.out.size; omega) (fun k e => by injection e with e; omega)
set_option maxRecDepth 100000 in
theorem Take_out (g base : Nat) (i : Int) (xs : List S32) (w : World) (ok : Nat → Prop) (v : Value) (hbox : BoxV w g base ok v xs) (hi : i < 0 ∨ (xs.length : Int) ≤ i) :
    Calls Try.prog 11 #[.pointer (some ⟨g, 0, none⟩), .int .i64 i] w fun e w' => e = .returned (.tuple #[zS, .int .i64 5]) ∧ Below w.heap.size w w' := by
  have hb3 : Below w.heap.size w (((w.alloc (.cells #[.pointer (some ⟨g, 0, none⟩)] 24)).alloc (.cells #[.int .i64 i] 3)).alloc (.cells #[.int .i64 0, .int .i64 0, .int .i64 0, .int .u64 0, .int .i64 0, .int .u64 0, .int .u64 0, .int .u64 0, .int .i64 0, .int .i64 0, .string ⟨#[]⟩, .string ⟨#[]⟩, .string ⟨#[]⟩, .slice none 0 0] 32)) := below_alloc (below_alloc (below_alloc (Below.refl _ _) _) _) _
  have hz3 : (((w.alloc (.cells #[.pointer (some ⟨g, 0, none⟩)] 24)).alloc (.cells #[.int .i64 i] 3)).alloc (.cells #[.int .i64 0, .int .i64 0, .int .i64 0, .int .u64 0, .int .i64 0, .int .u64 0, .int .u64 0, .int .u64 0, .int .i64 0, .int .i64 0, .string ⟨#[]⟩, .string ⟨#[]⟩, .string ⟨#[]⟩, .slice none 0 0] 32)).heap[w.heap.size + 2]? = some (.cells zS.cells 32 (0, 0)) := by
    have h := blk_new ((w.alloc (.cells #[.pointer (some ⟨g, 0, none⟩)] 24)).alloc (.cells #[.int .i64 i] 3)) (.cells #[.int .i64 0, .int .i64 0, .int .i64 0, .int .u64 0, .int .i64 0, .int .u64 0, .int .u64 0, .int .u64 0, .int .i64 0, .int .i64 0, .string ⟨#[]⟩, .string ⟨#[]⟩, .string ⟨#[]⟩, .slice none 0 0] 32)
    rw [World.size_alloc, World.size_alloc] at h
    exact h
  have HD : ∃ A n c, (((w.alloc (.cells #[.pointer (some ⟨g, 0, none⟩)] 24)).alloc (.cells #[.int .i64 i] 3)).alloc (.cells #[.int .i64 0, .int .i64 0, .int .i64 0, .int .u64 0, .int .i64 0, .int .u64 0, .int .u64 0, .int .u64 0, .int .i64 0, .int .i64 0, .string ⟨#[]⟩, .string ⟨#[]⟩, .string ⟨#[]⟩, .slice none 0 0] 32)).heap[g]? = some (.cells #[.slice A n c] 60 (0, 0)) ∧ n = xs.length := by
    obtain ⟨A, c, rfl⟩ := hbox.slice
    exact ⟨A, _, c, blk_below hbox.1 hb3, rfl⟩
  obtain ⟨A, n, c, hg3, rfl⟩ := HD
  have hdoes := at22_out g i (.func (.func 23) #[] #[.pointer (some ⟨w.heap.size, 0, none⟩), .pointer (some ⟨w.heap.size + 1, 0, none⟩)]) A xs.length c (((w.alloc (.cells #[.pointer (some ⟨g, 0, none⟩)] 24)).alloc (.cells #[.int .i64 i] 3)).alloc (.cells #[.int .i64 0, .int .i64 0, .int .i64 0, .int .u64 0, .int .i64 0, .int .u64 0, .int .u64 0, .int .u64 0, .int .i64 0, .int .i64 0, .string ⟨#[]⟩, .string ⟨#[]⟩, .string ⟨#[]⟩, .slice none 0 0] 32)) hg3 hi
  have HDO := Lib.hid hdoes
  have HZ3 := Lib.hid hz3
  have HB3 := Lib.hid hb3
  clear hdoes hz3 hb3 hbox hi hg3
  go_enter Try.func11, Try.ntmps11
  go_wp2_with (first | (go_at_call 22; refine HDO.out.mono ?_; rintro e w6 ⟨rfl, hb6⟩; have HB6 := Lib.hid hb6; have HZ6 := Lib.hid (blk_below HZ3.out hb6); clear hb6) | (refine wpList_store_row rfl rfl 32 (.tmp 4) (.tmp 10) rfl (g := w.heap.size + 2) rfl rfl HZ6.out (by kernel_rfl) rfl (one14 (x := z32) rfl) ?_; intro w7 hz7 hg7; have HZ7 := Lib.hid hz7; have HG7 := Lib.hid hg7; clear hz7 hg7))
  refine bodyPost_ret (results_ct rfl _ _ (w.heap.size + 2) 32 _ (0, 0) _ rfl HZ7.out Try.underlying32 rfl (by kernel_rfl)) rfl ?_
  exact ⟨rfl, Below.grown (HB3.out.trans (HB6.out.mono (by simp; omega))) HG7.out (by have := HB6.out.size; simp at this; omega) (fun k e => by injection e with e; omega)⟩
set_option maxRecDepth 100000 in
theorem Peek_out (g base : Nat) (i : Int) (xs : List S32) (w : World) (ok : Nat → Prop) (v : Value) (hbox : BoxV w g base ok v xs) (hi : i < 0 ∨ (xs.length : Int) ≤ i) :
    Calls Try.prog 14 #[.pointer (some ⟨g, 0, none⟩), .int .i64 i] w fun e w' => e = .returned (.tuple #[zS, .int .i64 5]) ∧ Below w.heap.size w w' := by
  have hb3 : Below w.heap.size w (((w.alloc (.cells #[.pointer (some ⟨g, 0, none⟩)] 24)).alloc (.cells #[.int .i64 i] 3)).alloc (.cells #[.int .i64 0, .int .i64 0, .int .i64 0, .int .u64 0, .int .i64 0, .int .u64 0, .int .u64 0, .int .u64 0, .int .i64 0, .int .i64 0, .string ⟨#[]⟩, .string ⟨#[]⟩, .string ⟨#[]⟩, .slice none 0 0] 32)) := below_alloc (below_alloc (below_alloc (Below.refl _ _) _) _) _
  have hz3 : (((w.alloc (.cells #[.pointer (some ⟨g, 0, none⟩)] 24)).alloc (.cells #[.int .i64 i] 3)).alloc (.cells #[.int .i64 0, .int .i64 0, .int .i64 0, .int .u64 0, .int .i64 0, .int .u64 0, .int .u64 0, .int .u64 0, .int .i64 0, .int .i64 0, .string ⟨#[]⟩, .string ⟨#[]⟩, .string ⟨#[]⟩, .slice none 0 0] 32)).heap[w.heap.size + 2]? = some (.cells zS.cells 32 (0, 0)) := by
    have h := blk_new ((w.alloc (.cells #[.pointer (some ⟨g, 0, none⟩)] 24)).alloc (.cells #[.int .i64 i] 3)) (.cells #[.int .i64 0, .int .i64 0, .int .i64 0, .int .u64 0, .int .i64 0, .int .u64 0, .int .u64 0, .int .u64 0, .int .i64 0, .int .i64 0, .string ⟨#[]⟩, .string ⟨#[]⟩, .string ⟨#[]⟩, .slice none 0 0] 32)
    rw [World.size_alloc, World.size_alloc] at h
    exact h
  have HD : ∃ A n c, (((w.alloc (.cells #[.pointer (some ⟨g, 0, none⟩)] 24)).alloc (.cells #[.int .i64 i] 3)).alloc (.cells #[.int .i64 0, .int .i64 0, .int .i64 0, .int .u64 0, .int .i64 0, .int .u64 0, .int .u64 0, .int .u64 0, .int .i64 0, .int .i64 0, .string ⟨#[]⟩, .string ⟨#[]⟩, .string ⟨#[]⟩, .slice none 0 0] 32)).heap[g]? = some (.cells #[.slice A n c] 60 (0, 0)) ∧ n = xs.length := by
    obtain ⟨A, c, rfl⟩ := hbox.slice
    exact ⟨A, _, c, blk_below hbox.1 hb3, rfl⟩
  obtain ⟨A, n, c, hg3, rfl⟩ := HD
  have hdoes := at22_out g i (.func (.func 27) #[] #[.pointer (some ⟨w.heap.size, 0, none⟩), .pointer (some ⟨w.heap.size + 1, 0, none⟩)]) A xs.length c (((w.alloc (.cells #[.pointer (some ⟨g, 0, none⟩)] 24)).alloc (.cells #[.int .i64 i] 3)).alloc (.cells #[.int .i64 0, .int .i64 0, .int .i64 0, .int .u64 0, .int .i64 0, .int .u64 0, .int .u64 0, .int .u64 0, .int .i64 0, .int .i64 0, .string ⟨#[]⟩, .string ⟨#[]⟩, .string ⟨#[]⟩, .slice none 0 0] 32)) hg3 hi
  have HDO := Lib.hid hdoes
  have HZ3 := Lib.hid hz3
  have HB3 := Lib.hid hb3
  clear hdoes hz3 hb3 hbox hi hg3
  go_enter Try.func14, Try.ntmps14
  go_wp2_with (first | (go_at_call 22; refine HDO.out.mono ?_; rintro e w6 ⟨rfl, hb6⟩; have HB6 := Lib.hid hb6; have HZ6 := Lib.hid (blk_below HZ3.out hb6); clear hb6) | (refine wpList_store_row rfl rfl 32 (.tmp 4) (.tmp 10) rfl (g := w.heap.size + 2) rfl rfl HZ6.out (by kernel_rfl) rfl (one14 (x := z32) rfl) ?_; intro w7 hz7 hg7; have HZ7 := Lib.hid hz7; have HG7 := Lib.hid hg7; clear hz7 hg7))
  refine bodyPost_ret (results_ct rfl _ _ (w.heap.size + 2) 32 _ (0, 0) _ rfl HZ7.out Try.underlying32 rfl (by kernel_rfl)) rfl ?_
  exact ⟨rfl, Below.grown (HB3.out.trans (HB6.out.mono (by simp; omega))) HG7.out (by have := HB6.out.size; simp at this; omega) (fun k e => by injection e with e; omega)⟩
set_option maxRecDepth 100000 in
theorem Take_nil (i : Int) (w : World) :
    Calls Try.prog 11 #[.pointer none, .int .i64 i] w fun e w' => e = .returned (.tuple #[zS, .int .i64 1]) ∧ Below w.heap.size w w' := by
  have hb3 : Below w.heap.size w (((w.alloc (.cells #[.pointer none] 24)).alloc (.cells #[.int .i64 i] 3)).alloc (.cells #[.int .i64 0, .int .i64 0, .int .i64 0, .int .u64 0, .int .i64 0, .int .u64 0, .int .u64 0, .int .u64 0, .int .i64 0, .int .i64 0, .string ⟨#[]⟩, .string ⟨#[]⟩, .string ⟨#[]⟩, .slice none 0 0] 32)) := below_alloc (below_alloc (below_alloc (Below.refl _ _) _) _) _
  have hz3 : (((w.alloc (.cells #[.pointer none] 24)).alloc (.cells #[.int .i64 i] 3)).alloc (.cells #[.int .i64 0, .int .i64 0, .int .i64 0, .int .u64 0, .int .i64 0, .int .u64 0, .int .u64 0, .int .u64 0, .int .i64 0, .int .i64 0, .string ⟨#[]⟩, .string ⟨#[]⟩, .string ⟨#[]⟩, .slice none 0 0] 32)).heap[w.heap.size + 2]? = some (.cells zS.cells 32 (0, 0)) := by
    have h := blk_new ((w.alloc (.cells #[.pointer none] 24)).alloc (.cells #[.int .i64 i] 3)) (.cells #[.int .i64 0, .int .i64 0, .int .i64 0, .int .u64 0, .int .i64 0, .int .u64 0, .int .u64 0, .int .u64 0, .int .i64 0, .int .i64 0, .string ⟨#[]⟩, .string ⟨#[]⟩, .string ⟨#[]⟩, .slice none 0 0] 32)
    rw [World.size_alloc, World.size_alloc] at h
    exact h
  have hdoes := at22_nil i (.func (.func 23) #[] #[.pointer (some ⟨w.heap.size, 0, none⟩), .pointer (some ⟨w.heap.size + 1, 0, none⟩)]) (((w.alloc (.cells #[.pointer none] 24)).alloc (.cells #[.int .i64 i] 3)).alloc (.cells #[.int .i64 0, .int .i64 0, .int .i64 0, .int .u64 0, .int .i64 0, .int .u64 0, .int .u64 0, .int .u64 0, .int .i64 0, .int .i64 0, .string ⟨#[]⟩, .string ⟨#[]⟩, .string ⟨#[]⟩, .slice none 0 0] 32))
  have HDO := Lib.hid hdoes
  have HZ3 := Lib.hid hz3
  have HB3 := Lib.hid hb3
  clear hdoes hz3 hb3
  go_enter Try.func11, Try.ntmps11
  go_wp2_with (first | (go_at_call 22; refine HDO.out.mono ?_; rintro e w6 ⟨rfl, hb6⟩; have HB6 := Lib.hid hb6; have HZ6 := Lib.hid (blk_below HZ3.out hb6); clear hb6) | (refine wpList_store_row rfl rfl 32 (.tmp 4) (.tmp 10) rfl (g := w.heap.size + 2) rfl rfl HZ6.out (by kernel_rfl) rfl (one14 (x := z32) rfl) ?_; intro w7 hz7 hg7; have HZ7 := Lib.hid hz7; have HG7 := Lib.hid hg7; clear hz7 hg7))
  refine bodyPost_ret (results_ct rfl _ _ (w.heap.size + 2) 32 _ (0, 0) _ rfl HZ7.out Try.underlying32 rfl (by kernel_rfl)) rfl ?_
  exact ⟨rfl, Below.grown (HB3.out.trans (HB6.out.mono (by simp; omega))) HG7.out (by have := HB6.out.size; simp at this; omega) (fun k e => by injection e with e; omega)⟩
set_option maxRecDepth 100000 in
theorem Peek_nil (i : Int) (w : World) :
    Calls Try.prog 14 #[.pointer none, .int .i64 i] w fun e w' => e = .returned (.tuple #[zS, .int .i64 1]) ∧ Below w.heap.size w w' := by
  have hb3 : Below w.heap.size w (((w.alloc (.cells #[.pointer none] 24)).alloc (.cells #[.int .i64 i] 3)).alloc (.cells #[.int .i64 0, .int .i64 0, .int .i64 0, .int .u64 0, .int .i64 0, .int .u64 0, .int .u64 0, .int .u64 0, .int .i64 0, .int .i64 0, .string ⟨#[]⟩, .string ⟨#[]⟩, .string ⟨#[]⟩, .slice none 0 0] 32)) := below_alloc (below_alloc (below_alloc (Below.refl _ _) _) _) _
  have hz3 : (((w.alloc (.cells #[.pointer none] 24)).alloc (.cells #[.int .i64 i] 3)).alloc (.cells #[.int .i64 0, .int .i64 0, .int .i64 0, .int .u64 0, .int .i64 0, .int .u64 0, .int .u64 0, .int .u64 0, .int .i64 0, .int .i64 0, .string ⟨#[]⟩, .string ⟨#[]⟩, .string ⟨#[]⟩, .slice none 0 0] 32)).heap[w.heap.size + 2]? = some (.cells zS.cells 32 (0, 0)) := by
    have h := blk_new ((w.alloc (.cells #[.pointer none] 24)).alloc (.cells #[.int .i64 i] 3)) (.cells #[.int .i64 0, .int .i64 0, .int .i64 0, .int .u64 0, .int .i64 0, .int .u64 0, .int .u64 0, .int .u64 0, .int .i64 0, .int .i64 0, .string ⟨#[]⟩, .string ⟨#[]⟩, .string ⟨#[]⟩, .slice none 0 0] 32)
    rw [World.size_alloc, World.size_alloc] at h
    exact h
  have hdoes := at22_nil i (.func (.func 27) #[] #[.pointer (some ⟨w.heap.size, 0, none⟩), .pointer (some ⟨w.heap.size + 1, 0, none⟩)]) (((w.alloc (.cells #[.pointer none] 24)).alloc (.cells #[.int .i64 i] 3)).alloc (.cells #[.int .i64 0, .int .i64 0, .int .i64 0, .int .u64 0, .int .i64 0, .int .u64 0, .int .u64 0, .int .u64 0, .int .i64 0, .int .i64 0, .string ⟨#[]⟩, .string ⟨#[]⟩, .string ⟨#[]⟩, .slice none 0 0] 32))
  have HDO := Lib.hid hdoes
  have HZ3 := Lib.hid hz3
  have HB3 := Lib.hid hb3
  clear hdoes hz3 hb3
  go_enter Try.func14, Try.ntmps14
  go_wp2_with (first | (go_at_call 22; refine HDO.out.mono ?_; rintro e w6 ⟨rfl, hb6⟩; have HB6 := Lib.hid hb6; have HZ6 := Lib.hid (blk_below HZ3.out hb6); clear hb6) | (refine wpList_store_row rfl rfl 32 (.tmp 4) (.tmp 10) rfl (g := w.heap.size + 2) rfl rfl HZ6.out (by kernel_rfl) rfl (one14 (x := z32) rfl) ?_; intro w7 hz7 hg7; have HZ7 := Lib.hid hz7; have HG7 := Lib.hid hg7; clear hz7 hg7))
  refine bodyPost_ret (results_ct rfl _ _ (w.heap.size + 2) 32 _ (0, 0) _ rfl HZ7.out Try.underlying32 rfl (by kernel_rfl)) rfl ?_
  exact ⟨rfl, Below.grown (HB3.out.trans (HB6.out.mono (by simp; omega))) HG7.out (by have := HB6.out.size; simp at this; omega) (fun k e => by injection e with e; omega)⟩
set_option maxRecDepth 100000 in
theorem Copy_in (g base : Nat) (i : Int) (xs : List S32) (w : World) (ok : Nat → Prop) (v : Value) (hbox : BoxV w g base ok v xs) (hfresh : ∀ k, w.heap.size ≤ k → ok k) (h0 : 0 ≤ i) (hi : i < xs.length) (hfit : ∀ x ∈ xs, Fits x) (hl : (xs.length + 1) * 152 ≤ 140737488355328) :
    Calls Try.prog 15 #[.pointer (some ⟨g, 0, none⟩), .int .i64 i] w fun e w' => e = .returned (.int .i64 0) ∧ (∃ v', BoxV w' g base ok v' (xs ++ [xs.getD i.toNat z32]) ∧ ∀ k, v'.ownBlock = some k → w.heap.size ≤ k) ∧ KeepBut w w' g none ∧ Below base w w' := by
  have hlt := hbox.lt
  have hb3 : Below w.heap.size w ((w.alloc (.cells #[.pointer (some ⟨g, 0, none⟩)] 24)).alloc (.cells #[.int .i64 i] 3)) := below_alloc (below_alloc (Below.refl _ _) _) _
  have hp3 : ((w.alloc (.cells #[.pointer (some ⟨g, 0, none⟩)] 24)).alloc (.cells #[.int .i64 i] 3)).heap[w.heap.size]? = some (.cells #[.pointer (some ⟨g, 0, none⟩)] 24 (0, 0)) := blk_alloc (blk_new w _) _
  have hq3 : ((w.alloc (.cells #[.pointer (some ⟨g, 0, none⟩)] 24)).alloc (.cells #[.int .i64 i] 3)).heap[w.heap.size + 1]? = some (.cells #[.int .i64 i] 3 (0, 0)) := heap_alloc2_new w _ _
  obtain ⟨h1, h2, h3, h4⟩ := hbox.below hb3
  obtain ⟨A, c, rfl⟩ := Kd.N_slice h2
  have hdoes := at28_in g w.heap.size (w.heap.size + 1) i A xs.length c ((w.alloc (.cells #[.pointer (some ⟨g, 0, none⟩)] 24)).alloc (.cells #[.int .i64 i] 3)) (fun w' => (∃ v', BoxV w' g base ok v' (xs ++ [xs.getD i.toNat z32]) ∧ ∀ k, v'.ownBlock = some k → w.heap.size ≤ k) ∧ KeepBut w w' g none ∧ Below base w w') h1 h0 hi
    ((Copy1_calls w.heap.size (w.heap.size + 1) g base i _ xs ((w.alloc (.cells #[.pointer (some ⟨g, 0, none⟩)] 24)).alloc (.cells #[.int .i64 i] 3)) ok hp3 hq3 h1 h2 h0 hi hfit h3 (fun k hk => hfresh k (by simp at hk; omega)) h4 hl).mono (by
      rintro e w' ⟨v', rfl, hg', hn', hf', hk', hb'⟩
      exact ⟨rfl, ⟨v', ⟨hg', hn', h3, h4⟩, fun k e => by have := hf' k e; simp at this; omega⟩, (KeepBut.of_below hb3 g none).trans hk' (.inl rfl), (hb3.mono (by have := h4; omega)).trans hb'⟩))
  have HDO := Lib.hid hdoes
  clear hdoes hp3 hq3 hb3 h1 h2 h3 h4 hbox hlt hfresh hfit hl
  go_enter Try.func15, Try.ntmps15
  go_wp2_with (go_at_call 28; refine HDO.out.mono ?_; rintro e w6 ⟨rfl, hr⟩; have HR := Lib.hid hr; clear hr)
  go_ret
  exact ⟨rfl, HR.out⟩
set_option maxRecDepth 100000 in
theorem Copy_out (g base : Nat) (i : Int) (xs : List S32) (w : World) (ok : Nat → Prop) (v : Value) (hbox : BoxV w g base ok v xs) (hi : i < 0 ∨ (xs.length : Int) ≤ i) :
    Calls Try.prog 15 #[.pointer (some ⟨g, 0, none⟩), .int .i64 i] w fun e w' => e = .returned (.int .i64 5) ∧ Below w.heap.size w w' := by
  have hb3 : Below w.heap.size w ((w.alloc (.cells #[.pointer (some ⟨g, 0, none⟩)] 24)).alloc (.cells #[.int .i64 i] 3)) := below_alloc (below_alloc (Below.refl _ _) _) _
  obtain ⟨h1, h2, h3, h4⟩ := hbox.below hb3
  obtain ⟨A, c, rfl⟩ := Kd.N_slice h2
  have HDO := Lib.hid (at28_out g i (.func (.func 29) #[] #[.pointer (some ⟨w.heap.size, 0, none⟩), .pointer (some ⟨w.heap.size + 1, 0, none⟩)]) A xs.length c ((w.alloc (.cells #[.pointer (some ⟨g, 0, none⟩)] 24)).alloc (.cells #[.int .i64 i] 3)) h1 hi)
  have HB3 := Lib.hid hb3
  clear hb3 h1 h2 h3 h4 hbox hi
  go_enter Try.func15, Try.ntmps15
  go_wp2_with (go_at_call 28; refine HDO.out.mono ?_; rintro e w6 ⟨rfl, rfl⟩)
  go_ret
  exact ⟨rfl, HB3.out⟩
set_option maxRecDepth 100000 in
theorem Copy_nil (i : Int) (w : World) :
    Calls Try.prog 15 #[.pointer none, .int .i64 i] w fun e w' => e = .returned (.int .i64 1) ∧ Below w.heap.size w w' := by
  have HB3 := Lib.hid (show Below w.heap.size w ((w.alloc (.cells #[.pointer none] 24)).alloc (.cells #[.int .i64 i] 3)) from below_alloc (below_alloc (Below.refl _ _) _) _)
  have HDO := Lib.hid (at28_nil i (.func (.func 29) #[] #[.pointer (some ⟨w.heap.size, 0, none⟩), .pointer (some ⟨w.heap.size + 1, 0, none⟩)]) ((w.alloc (.cells #[.pointer none] 24)).alloc (.cells #[.int .i64 i] 3)))
  go_enter Try.func15, Try.ntmps15
  go_wp2_with (go_at_call 28; refine HDO.out.mono ?_; rintro e w6 ⟨rfl, rfl⟩)
  go_ret
  exact ⟨rfl, HB3.out⟩
theorem Len_calls (g base : Nat) (xs : List S32) (w : World) (ok : Nat → Prop) (v : Value) (hbox : BoxV w g base ok v xs) :
    Calls Try.prog 12 #[.pointer (some ⟨g, 0, none⟩)] w fun e w' => e = .returned (.int .i64 (xs.length : Int)) ∧ w = w' := by
  obtain ⟨h1, h2, h3, h4⟩ := hbox
  obtain ⟨A, c, rfl⟩ := Kd.N_slice h2
  have i0 : w.cell? ⟨g, 0, none⟩ = some (.slice A xs.length c) := (blk_cell h1 0).trans rfl
  clear h1 h2 h3 h4
  go_enter Try.func12, Try.ntmps12
  go_wp2_with fail
  go_ret
  exact ⟨rfl, rfl⟩
theorem Len_nil (w : World) : Calls Try.prog 12 #[.pointer none] w fun e w' => e = .returned (.int .i64 0) ∧ w = w' := by
  go_enter Try.func12, Try.ntmps12
  go_wp2_with fail
  go_ret
  exact ⟨rfl, rfl⟩
theorem New_calls (w : World) : Calls Try.prog 9 #[] w fun e w' => e = .returned (.pointer (some ⟨w.heap.size, 0, none⟩)) ∧ w' = w.alloc (.cells #[.slice none 0 0] 60) := by
  go_enter Try.func9, Try.ntmps9
  go_wp2_with fail
  go_ret
  exact ⟨rfl, rfl⟩
theorem BoxV.new (w : World) (base : Nat) (ok : Nat → Prop) (hb : base ≤ w.heap.size) (hok : ∀ k, ok k → k ≠ w.heap.size) : BoxV (w.alloc (.cells #[.slice none 0 0] 60)) w.heap.size base ok (.slice none 0 0) [] :=
  ⟨blk_new w _, Kd.N_nil _ _ _ _ _, hok, hb⟩
end Go.Proofs.Ytijbpncekdiodaa
