/- The maker of a run: its state, close. Laid by gen_sa.py. · The maker of a run: flag, may, add. Laid by gen_sb.py. -/
import Derived.Test.YtfemjlhfgmbcmaaKb
import Derived.Test.YtfemjlhfgmbcmaaFc
import Derived.Deep.DrawnRows
namespace Go.Proofs.Ytfemjlhfgmbcmaa
open Go.RowKit Go.Proofs.YtfemjlhfgmbcmaaW.PrintWords Go.Proofs.YtfemjlhfgmbcmaaW.PrintLast Go.Proofs.YtfemjlhfgmbcmaaW.PrintMore
set_option linter.unusedVariables false
set_option linter.unusedSimpArgs false
attribute [local go_sem ↓] Go.wp_at_zero Go.wp_at_succ

/-- What the maker has: the block under way, its first key, how many blocks, the bytes, the index. -/
structure MS where
  load : ByteArray
  first : ByteArray
  many : Nat
  out : List UInt8
  idx : List UInt8
def Mk (W : World) (g base : Nat) (ok : Nat → Prop) (b : Int) (m : MS) : Prop := ∃ po pi vo vi, (po = .pointer none ∨ po = .pointer (some ⟨g, 1, none⟩)) ∧ (pi = .pointer none ∨ pi = .pointer (some ⟨g, 6, none⟩)) ∧
  W.heap[g]? = some (.cells #[.int .i64 b, po, vo, .string m.load, .string m.first, .int .u64 m.many, pi, vi] 130 (0, 0)) ∧ W.ownsRow base 5 1 vo m.out.length (Lib.byteCells m.out) ∧ W.ownsRow base 5 1 vi m.idx.length (Lib.byteCells m.idx) ∧ (∀ k, vo.ownBlock = some k → vi.ownBlock ≠ some k) ∧ (∀ k, vo.ownBlock = some k → ok k) ∧ (∀ k, vi.ownBlock = some k → ok k) ∧ ∀ k, ok k → k ≠ g
theorem lies130_1 : ∀ (a b c d e f h i : Value), liesAt Try.prog Try.prog.depth 130 ((#[a, b, c, d, e, f, h, i] : Array Value).size / Try.prog.cellsOf 130) 1 128 1 = true := fun _ _ _ _ _ _ _ _ => by
  show liesAt Try.prog Try.prog.depth 130 (8 / Try.prog.cellsOf 130) 1 128 1 = true
  kernel_rfl
theorem lies130_6 : ∀ (a b c d e f h i : Value), liesAt Try.prog Try.prog.depth 130 ((#[a, b, c, d, e, f, h, i] : Array Value).size / Try.prog.cellsOf 130) 6 128 1 = true := fun _ _ _ _ _ _ _ _ => by
  show liesAt Try.prog Try.prog.depth 130 (8 / Try.prog.cellsOf 130) 6 128 1 = true
  kernel_rfl
/-- What a step of the maker may turn. -/
def SM (g : Nat) (ok : Nat → Prop) (k : Nat) : Prop := k = g ∨ ok k
theorem Mk.out {W : World} {g base : Nat} {ok : Nat → Prop} {b : Int} {m : MS} (h : Mk W g base ok b m) (s : ByteArray) (hl : m.out.length + s.size ≤ 140737488355328) (hb : base ≤ W.heap.size) (hfr : ∀ k, W.heap.size ≤ k → ok k) :
    Calls Try.prog 91 #[.pointer (some ⟨g, 1, none⟩), .string s] W fun e w' => e = .returned (.tuple #[.int .i64 s.size, .nilIface]) ∧ Mk w' g base ok b { m with out := m.out ++ s.data.toList } ∧ Only2 (SM g ok) W w' := by
  obtain ⟨po, pi, vo, vi, hpo, hpi, hg, ho, hi, hne, hoo, hoi, hog⟩ := h
  have hgo := own_ne ho hg (by decide)
  have hgi := own_ne hi hg (by decide)
  refine (BWrite g 1 130 _ s base m.out.length vo (Lib.byteCells m.out) W hg (by rcases hpo with rfl | rfl <;> simp) rfl (by decide) ho hl hb (lies130_1 _ _ _ _ _ _ _ _)).mono ?_
  rintro e w' ⟨rfl, v', h1, h2, h3, h4⟩
  refine ⟨rfl, ⟨.pointer (some ⟨g, 1, none⟩), pi, v', vi, .inr rfl, hpi, h1, ?_, own_only hi h4 (fun k hk => ?_), fun k hk hk2 => ?_, fun k hk => ?_, hoi, hog⟩, h4.mono (fun k hk => ?_)⟩
  · rw [Lib.byteCells_append, ← Lib.strCells_eq]
    have : (m.out ++ s.data.toList).length = m.out.length + s.size := by rw [List.length_append, ← Lib.size_eq]
    rw [this]; exact h2
  · rintro (rfl | e)
    · exact hgi hk.symm
    · exact hne k e hk
  · rcases h3 with h3 | ⟨c, h3, hc⟩
    · exact hne k (h3.symm.trans hk) hk2
    · rw [h3] at hk; injection hk with hk; subst hk; have := own_lt hi _ hk2; omega
  · rcases h3 with h3 | ⟨c, h3, hc⟩
    · exact hoo k (h3.symm.trans hk)
    · rw [h3] at hk; injection hk with hk; subst hk; exact hfr _ hc
  · rcases hk with rfl | hk
    · exact .inl (.inl rfl)
    · exact .inl (.inr (hoo k hk))
theorem Mk.index {W : World} {g base : Nat} {ok : Nat → Prop} {b : Int} {m : MS} (h : Mk W g base ok b m) (s : ByteArray) (hl : m.idx.length + s.size ≤ 140737488355328) (hb : base ≤ W.heap.size) (hfr : ∀ k, W.heap.size ≤ k → ok k) :
    Calls Try.prog 91 #[.pointer (some ⟨g, 6, none⟩), .string s] W fun e w' => e = .returned (.tuple #[.int .i64 s.size, .nilIface]) ∧ Mk w' g base ok b { m with idx := m.idx ++ s.data.toList } ∧ Only2 (SM g ok) W w' := by
  obtain ⟨po, pi, vo, vi, hpo, hpi, hg, ho, hi, hne, hoo, hoi, hog⟩ := h
  have hgo := own_ne ho hg (by decide)
  have hgi := own_ne hi hg (by decide)
  refine (BWrite g 6 130 _ s base m.idx.length vi (Lib.byteCells m.idx) W hg (by rcases hpi with rfl | rfl <;> simp) rfl (by decide) hi hl hb (lies130_6 _ _ _ _ _ _ _ _)).mono ?_
  rintro e w' ⟨rfl, v', h1, h2, h3, h4⟩
  refine ⟨rfl, ⟨po, .pointer (some ⟨g, 6, none⟩), vo, v', hpo, .inr rfl, h1, own_only ho h4 (fun k hk => ?_), ?_, fun k hk hk2 => ?_, hoo, fun k hk => ?_, hog⟩, h4.mono (fun k hk => ?_)⟩
  · rintro (rfl | e)
    · exact hgo hk.symm
    · exact hne k hk e
  · rw [Lib.byteCells_append, ← Lib.strCells_eq]
    have : (m.idx ++ s.data.toList).length = m.idx.length + s.size := by rw [List.length_append, ← Lib.size_eq]
    rw [this]; exact h2
  · rcases h3 with h3 | ⟨c, h3, hc⟩
    · exact hne k hk (h3.symm.trans hk2)
    · rw [h3] at hk2; injection hk2 with hk2; subst hk2; have := own_lt ho _ hk; omega
  · rcases h3 with h3 | ⟨c, h3, hc⟩
    · exact hoi k (h3.symm.trans hk)
    · rw [h3] at hk; injection hk with hk; subst hk; exact hfr _ hc
  · rcases hk with rfl | hk
    · exact .inl (.inl rfl)
    · exact .inl (.inr (hoi k hk))
section
variable {W W' : World} {g base : Nat} {ok ok' : Nat → Prop} {b : Int} {m : MS}
theorem Mk.below (h : Mk W g base ok b m) (hb : Below W.heap.size W W') : Mk W' g base ok b m := by
  obtain ⟨po, pi, vo, vi, hpo, hpi, hg, ho, hi, hne, hoo, hoi, hog⟩ := h
  exact ⟨po, pi, vo, vi, hpo, hpi, (hb.block g (blk_lt hg)).trans hg, own_move ho (fun k hk => hb.block k (own_lt ho k hk)), own_move hi (fun k hk => hb.block k (own_lt hi k hk)), hne, hoo, hoi, hog⟩
/-- A field of the maker's own is stored: the load, the first key, how many blocks. -/
theorem Mk.mono (h : Mk W g base ok b m) (hm : ∀ k, ok k → k < W.heap.size → ok' k) (hg' : ∀ k, ok' k → k ≠ g) : Mk W g base ok' b m := by
  obtain ⟨po, pi, vo, vi, hpo, hpi, hg, ho, hi, hne, hoo, hoi, hog⟩ := h
  exact ⟨po, pi, vo, vi, hpo, hpi, hg, ho, hi, hne, fun k hk => hm k (hoo k hk) (own_lt ho k hk), fun k hk => hm k (hoi k hk) (own_lt hi k hk), hg'⟩
theorem Mk.set (h : Mk W g base ok b m) (x y : ByteArray) (n : Nat) (o : Nat) (u : Value) (hu : ∀ a p v q z : Value, (#[a, p, v, .string m.load, .string m.first, .int .u64 m.many, q, z] : Array Value).setIfInBounds o u = #[a, p, v, .string x, .string y, .int .u64 n, q, z]) : Mk (W.setCell ⟨g, o, none⟩ u) g base ok b { m with load := x, first := y, many := n } := by
  obtain ⟨po, pi, vo, vi, hpo, hpi, hg, ho, hi, hne, hoo, hoi, hog⟩ := h
  have hw : ∀ k, k ≠ g → (W.setCell ⟨g, o, none⟩ u).heap[k]? = W.heap[k]? := fun k hk => Below.heap_setCell W ⟨g, o, none⟩ u k hk
  refine ⟨po, pi, vo, vi, hpo, hpi, ?_, own_move ho (fun k hk => hw k (hog k (hoo k hk))), own_move hi (fun k hk => hw k (hog k (hoi k hk))), hne, hoo, hoi, hog⟩
  rw [blk_set hg, hu]
theorem Mk.get (h : Mk W g base ok b m) : W.cell? ⟨g, 0, none⟩ = some (.int .i64 b) ∧ W.cell? ⟨g, 3, none⟩ = some (.string m.load) ∧ W.cell? ⟨g, 4, none⟩ = some (.string m.first) ∧ W.cell? ⟨g, 5, none⟩ = some (.int .u64 m.many) ∧ ∀ o, W.frozen? ⟨g, o, none⟩ = false := by
  obtain ⟨po, pi, vo, vi, hpo, hpi, hg, ho, hi, hne, hoo, hoi, hog⟩ := h
  exact ⟨(blk_cell hg 0).trans rfl, (blk_cell hg 3).trans rfl, (blk_cell hg 4).trans rfl, (blk_cell hg 5).trans rfl, fun o => blk_frozen hg o⟩
theorem Mk.lt (h : Mk W g base ok b m) : g < W.heap.size := by
  obtain ⟨po, pi, vo, vi, hpo, hpi, hg, ho, hi, hne, hoo, hoi, hog⟩ := h
  exact blk_lt hg
theorem Mk.moved (h : Mk W g base ok b m) {S : Nat → Prop} (ho2 : Only2 S W W') (hS : ∀ k, S k → ¬ (k = g ∨ ok k)) : Mk W' g base ok b m := by
  obtain ⟨po, pi, vo, vi, hpo, hpi, hg, ho, hi, hne, hoo, hoi, hog⟩ := h
  exact ⟨po, pi, vo, vi, hpo, hpi, ho2.blk hg (fun hs => hS g hs (.inl rfl)), own_only ho ho2 (fun k hk hs => hS k hs (.inr (hoo k hk))), own_only hi ho2 (fun k hk hs => hS k hs (.inr (hoi k hk))), hne, hoo, hoi, hog⟩
end

/-- The block under way is ended. -/
theorem wrap_u64_id (n : Int) (h0 : 0 ≤ n) (h : n < 18446744073709551616) : IntKind.u64.wrap n = n := by
  show (if (false && decide (n % 2 ^ 64 ≥ 2 ^ (64 - 1))) = true then n % 2 ^ 64 - 2 ^ 64 else n % 2 ^ 64) = n
  rw [if_neg (by simp), Int.emod_eq_of_lt h0 (by simpa using h)]
def putO (t : ByteArray) : ByteArray := (putR 2 t).1
theorem putO_size (t : ByteArray) : (putO t).size ≤ 65600 := by
  unfold putO putR
  by_cases h : 65536 < t.size
  · rw [if_pos h]; show (0 : Nat) ≤ _; omega
  · rw [if_neg h]
    have h1 := (encB_le t.size (by omega)).1
    have h2 : (fourB (sumN (bodyB 2 t))).size = 4 := rfl
    have h3 : (bodyB 2 t).size = 1 + ((encB t.size).size + t.size) := by unfold bodyB; rw [ByteArray.size_append, ByteArray.size_append]; rfl
    show (fourB (sumN (bodyB 2 t)) ++ bodyB 2 t).size ≤ _
    rw [ByteArray.size_append, h2, h3]
    omega
def entB (m : MS) : ByteArray := encB (putO m.load).size ++ (encB m.first.size ++ m.first)
theorem entB_size (m : MS) (hf : m.first.size ≤ 1048576) : (entB m).size ≤ 1048596 := by
  have h1 := putO_size m.load
  have h2 := (encB_le (putO m.load).size (by omega)).1
  have h3 := (encB_le m.first.size (by omega)).1
  unfold entB
  rw [ByteArray.size_append, ByteArray.size_append]
  omega
def closeS (m : MS) : MS := if m.load.size = 0 then m else { load := ⟨#[]⟩, first := m.first, many := m.many + 1, out := m.out ++ (putO m.load).data.toList, idx := m.idx ++ (entB m).data.toList }

set_option maxRecDepth 100000 in
set_option maxHeartbeats 2000000 in
theorem close_calls (g base : Nat) (ok : Nat → Prop) (b : Int) (m : MS) (w : World) (h : Mk w g base ok b m) (hb : base ≤ w.heap.size) (hfr : ∀ k, w.heap.size ≤ k → ok k) (hf : m.first.size ≤ 1048576) (hld : m.load.size ≤ 1048576) (ho : m.out.length ≤ 1099511627776) (hi : m.idx.length ≤ 1099511627776) (hm : m.many < 1099511627776) :
    Calls Try.prog 79 #[.pointer (some ⟨g, 0, none⟩)] w fun e w' => e = .returned (.tuple #[]) ∧ Mk w' g base ok b (closeS m) ∧ Only2 (SM g ok) w w' := by
  obtain ⟨i0, i3, i4, i5, hfz⟩ := h.get
  have HM := Lib.hid h
  have HB := Lib.hid hb
  have HFR := Lib.hid hfr
  have HF := Lib.hid hf
  have HLD := Lib.hid hld
  have HO := Lib.hid ho
  have HI := Lib.hid hi
  have HMM := Lib.hid hm
  have HZ := Lib.hid hfz
  by_cases hz : m.load.size = 0
  · have hz2 : m.load.toList = [] := str_none hz
    rw [closeS, if_pos hz]
    clear h hb hfr hf hld ho hi hm hfz
    go_enter Try.func79, Try.ntmps79
    go_wp2_with fail
    refine bodyPost_ret (results_none rfl _ _ _) rfl ?_
    exact ⟨rfl, HM.out, Only2.refl _ _⟩
  · have hz2 := str_some (show 0 < m.load.size by omega)
    have HCL := Lib.hid (show closeS m = { load := ⟨#[]⟩, first := m.first, many := m.many + 1, out := m.out ++ (putO m.load).data.toList, idx := m.idx ++ (entB m).data.toList } by rw [closeS, if_neg hz])
    have HPS := Lib.hid (putO_size m.load)
    have HES := Lib.hid (entB_size m hf)
    have HP := Lib.hid (show Calls Try.prog 61 #[.int .u8 2, .string m.load] w fun e w' => e = .returned (.tuple #[.string (putO m.load), .int .i64 (putR 2 m.load).2]) ∧ Below w.heap.size w w' from Put_calls 2 m.load w (by unfold maxLen; omega))
    have hwr : IntKind.u64.wrap ((putO m.load).size : Int) = ((putO m.load).size : Int) := by have := HPS.out; exact wrap_u64_id _ (by omega) (by omega)
    have hsum : ¬ (9223372036854775807 < (encB (putO m.load).size).size + ((encB m.first.size).size + m.first.size)) := by have h1 := (encB_le (putO m.load).size (by have := HPS.out; omega)).1; have h2 := (encB_le m.first.size (by have := HF.out; omega)).1; have := HF.out; omega
    have hwm : IntKind.u64.wrap ((m.many : Int) + 1) = (m.many : Int) + 1 := by have := HMM.out; exact wrap_u64_id _ (by omega) (by omega)
    clear h hb hfr hf hld ho hi hm hfz i0 i4 i5
    rw [HCL.out]
    go_enter Try.func79, Try.ntmps79
    go_wp2_with (first | (go_at_call 61; refine HP.out.mono ?_; rintro e w1 ⟨rfl, hb1⟩; have hm1 := HM.out.below hb1; have HM1 := Lib.hid hm1; have HB1 := Lib.hid hb1; clear hm1 hb1) | (refine (HM1.out.out (putO m.load) (by have := HO.out; have := HPS.out; omega) (by have := HB1.out.size; have := HB.out; omega) (fun k hk => HFR.out k (by have := HB1.out.size; omega))).mono ?_; rintro e w2 ⟨rfl, hm2, ho2⟩; have HM2 := Lib.hid hm2; have HO2 := Lib.hid ho2; have j4 := hm2.get.2.2.1; clear hm2 ho2))
    refine start_ (n := 14) (S := fun w' => w'.cell? ⟨g, 4, none⟩ = some (.string m.first)) (ds := [13]) #[false, false, false, false, false, false, false, false, false, false, false, false, false, false] (by kernel_rfl) rfl rfl (j4) (fun hHeld => ?_)
    refine pure_ (i := 0) (N := some 22) (v := ?_) (a' := ?_) #[true, false, false, false, false, false, false, false, false, false, false, false, false, false] rfl rfl (by kernel_rfl) (fun _ _ _ h => h) (Or.inl ⟨by rfl, ?_⟩) ?_ ?_
    rotate_left
    · intro w'
      go_simp
      with_reducible rfl
    rotate_left
    · simp only [Act.put, List.setIfInBounds_toArray, List.set_cons_zero, List.set_cons_succ, i64_w, i32_w]
      rfl
    refine pure_ (i := 1) (N := some 23) (v := ?_) (a' := ?_) #[true, true, false, false, false, false, false, false, false, false, false, false, false, false] rfl rfl (by kernel_rfl) (fun _ _ _ h => h) (Or.inl ⟨by rfl, ?_⟩) ?_ ?_
    rotate_left
    · intro w'
      go_simp
      with_reducible rfl
    rotate_left
    · simp only [Act.put, List.setIfInBounds_toArray, List.set_cons_zero, List.set_cons_succ, i64_w, i32_w]
      rfl
    refine pure_ (i := 2) (N := some 24) (v := ?_) (a' := ?_) #[true, true, true, false, false, false, false, false, false, false, false, false, false, false] rfl rfl (by kernel_rfl) (fun _ _ _ h => h) (Or.inl ⟨by rfl, ?_⟩) ?_ ?_
    rotate_left
    · intro w'
      go_simp
      with_reducible rfl
    rotate_left
    · simp only [Act.put, List.setIfInBounds_toArray, List.set_cons_zero, List.set_cons_succ, i64_w, i32_w]
      rfl
    refine pure_ (i := 3) (N := some 25) (v := ?_) (a' := ?_) #[true, true, true, true, false, false, false, false, false, false, false, false, false, false] rfl rfl (by kernel_rfl) (fun _ _ _ h => h) (Or.inl ⟨by rfl, ?_⟩) ?_ ?_
    rotate_left
    · intro w'
      go_simp
      with_reducible rfl
    rotate_left
    · simp only [Act.put, List.setIfInBounds_toArray, List.set_cons_zero, List.set_cons_succ, i64_w, i32_w]
      rfl
    refine pure_ (i := 4) (N := some 26) (v := ?_) (a' := ?_) #[true, true, true, true, true, false, false, false, false, false, false, false, false, false] rfl rfl (by kernel_rfl) (fun _ _ _ h => h) (Or.inl ⟨by rfl, ?_⟩) ?_ ?_
    rotate_left
    · intro w'
      go_simp
      with_reducible rfl
    rotate_left
    · simp only [Act.put, List.setIfInBounds_toArray, List.set_cons_zero, List.set_cons_succ, i64_w, i32_w]
      rfl
    refine pure_ (i := 5) (N := some 27) (v := ?_) (a' := ?_) #[true, true, true, true, true, true, false, false, false, false, false, false, false, false] rfl rfl (by kernel_rfl) (fun _ _ _ h => h) (Or.inl ⟨by rfl, ?_⟩) ?_ ?_
    rotate_left
    · intro w'
      go_simp
      with_reducible rfl
    rotate_left
    · simp only [Act.put, List.setIfInBounds_toArray, List.set_cons_zero, List.set_cons_succ, i64_w, i32_w]
      rfl
    refine pure_ (i := 7) (N := some 29) (v := ?_) (a' := ?_) #[true, true, true, true, true, true, false, true, false, false, false, false, false, false] rfl rfl (by kernel_rfl) (fun _ _ _ h => h) (Or.inl ⟨by rfl, ?_⟩) ?_ ?_
    rotate_left
    · intro w'
      go_simp
      with_reducible rfl
    rotate_left
    · simp only [Act.put, List.setIfInBounds_toArray, List.set_cons_zero, List.set_cons_succ, i64_w, i32_w]
      rfl
    refine pure_ (i := 8) (N := some 30) (v := ?_) (a' := ?_) #[true, true, true, true, true, true, false, true, true, false, false, false, false, false] rfl rfl (by kernel_rfl) (fun _ _ _ h => h) (Or.inl ⟨by rfl, ?_⟩) ?_ ?_
    rotate_left
    · intro w'
      go_simp
      with_reducible rfl
    rotate_left
    · simp only [Act.put, List.setIfInBounds_toArray, List.set_cons_zero, List.set_cons_succ, i64_w, i32_w]
      rfl
    refine pure_ (i := 9) (N := some 31) (v := ?_) (a' := ?_) #[true, true, true, true, true, true, false, true, true, true, false, false, false, false] rfl rfl (by kernel_rfl) (fun _ _ _ h => h) (Or.inl ⟨by rfl, ?_⟩) ?_ ?_
    rotate_left
    · intro w'
      go_simp
      with_reducible rfl
    rotate_left
    · simp only [Act.put, List.setIfInBounds_toArray, List.set_cons_zero, List.set_cons_succ, i64_w, i32_w]
      rfl
    refine take_ (i := 10) (N := some 32) (v := ?_) (a' := ?_) #[true, true, true, true, true, true, false, true, true, true, true, false, false, false] rfl rfl (by kernel_rfl) (fun _ _ _ h => h) (Or.inl ⟨by rfl, ?_⟩) hHeld ?_ ?_
    rotate_left
    · rintro w' s0
      go_simp
      with_reducible rfl
    rotate_left
    · simp only [Act.put, List.setIfInBounds_toArray, List.set_cons_zero, List.set_cons_succ, i64_w, i32_w]
      rfl
    refine one_ (i := 6) (N := some 28) #[true, true, true, true, true, true, true, true, true, true, true, false, false, false] rfl rfl (by kernel_rfl) (by decide) (fun K hK => ?_)
    refine goes_ Try.func26 (by kernel_rfl) rfl #[.int .u64 ((putO m.load).size : Int)] (by rfl) rfl rfl (by simp only [List.map_toArray, List.map_cons, List.map_nil]; rfl) ?_
    refine (WUint_calls (putO m.load).size _ (by have := HPS.out; omega)).mono ?_
    rintro e w3 ⟨rfl, hb3⟩
    refine ⟨_, rfl, ?_⟩
    have HB3 := Lib.hid hb3
    clear hb3
    refine hK.out _ _ (pw_cell_below HB3.out hHeld) (fun hHeld => ?_)
    clear hK K
    refine norm_ (a' := ?_) ?_ ?_
    rotate_left
    · show Act.put _ (some 28) _ = _
      simp only [Act.put, List.setIfInBounds_toArray, List.set_cons_zero, List.set_cons_succ, i64_w, i32_w]
      rfl
    refine one_ (i := 11) (N := some 33) #[true, true, true, true, true, true, true, true, true, true, true, true, false, false] rfl rfl (by kernel_rfl) (by decide) (fun K hK => ?_)
    refine goes_ Try.func28 (by kernel_rfl) rfl #[.string m.first] (by rfl) rfl rfl (by simp only [List.map_toArray, List.map_cons, List.map_nil]; rfl) ?_
    refine (WText_calls m.first w3 (by have := HF.out; omega)).mono ?_
    rintro e w4 ⟨rfl, hb4⟩
    refine ⟨_, rfl, ?_⟩
    have HB4 := Lib.hid hb4
    clear hb4
    refine hK.out _ _ (pw_cell_below HB4.out hHeld) (fun hHeld => ?_)
    clear hK K
    refine norm_ (a' := ?_) ?_ ?_
    rotate_left
    · show Act.put _ (some 33) _ = _
      simp only [Act.put, List.setIfInBounds_toArray, List.set_cons_zero, List.set_cons_succ, i64_w, i32_w]
      rfl
    refine pure_ (i := 12) (N := some 34) (v := ?_) (a' := ?_) #[true, true, true, true, true, true, true, true, true, true, true, true, true, false] rfl rfl (by kernel_rfl) (fun _ _ _ h => h) (Or.inl ⟨by rfl, ?_⟩) ?_ ?_
    rotate_left
    · intro w'
      go_simp
      with_reducible rfl
    rotate_left
    · simp only [Act.put, List.setIfInBounds_toArray, List.set_cons_zero, List.set_cons_succ, i64_w, i32_w]
      rfl
    refine last_ (i := 13) (N := some 35) #[true, true, true, true, true, true, true, true, true, true, true, true, true, true] rfl rfl (by kernel_rfl) (by decide) (fun K hK => ?_)
    have hb24 : Below w2.heap.size w2 w4 := (below_drew1 (Below.refl _ _)).trans (HB3.out.trans (HB4.out.mono HB3.out.size))
    have HB24 := Lib.hid hb24
    refine goes_ Try.func91 (by kernel_rfl) rfl #[.pointer (some ⟨g, 6, none⟩), .string (encB (putO m.load).size ++ (encB m.first.size ++ m.first))] (by rfl) rfl rfl (by simp only [List.map_toArray, List.map_cons, List.map_nil]; rfl) ?_
    refine ((HM2.out.below hb24).index (entB m) (by have := HI.out; have := HES.out; show m.idx.length + _ ≤ _; omega) (by have := HB24.out.size; have := HO2.out.size; have := HB1.out.size; have := HB.out; omega) (fun k hk => HFR.out k (by have := HB24.out.size; have := HO2.out.size; have := HB1.out.size; omega))).mono ?_
    clear hb24
    rintro e w5 ⟨rfl, hm5, ho5⟩
    refine ⟨_, rfl, ?_⟩
    have HM5 := Lib.hid hm5
    have HO5 := Lib.hid ho5
    clear hm5 ho5
    refine hK.out _ _ ?_
    clear hK K
    refine norm_ (a' := ?_) ?_ ?_
    rotate_left
    · show Act.put _ (some 35) _ = _
      simp only [Act.put, List.setIfInBounds_toArray, List.set_cons_zero, List.set_cons_succ, i64_w, i32_w]
      rfl
    refine done_ (by kernel_rfl) ?_
    clear hHeld
    obtain ⟨_, k3, k4, k5, kf⟩ := HM5.out.get
    have f3 := kf 3
    have hm6 : Mk (w5.setCell ⟨g, 3, none⟩ (.string ⟨#[]⟩)) g base ok b { load := ⟨#[]⟩, first := m.first, many := m.many, out := m.out ++ (putO m.load).data.toList, idx := m.idx ++ (entB m).data.toList } := HM5.out.set ⟨#[]⟩ m.first m.many 3 _ (fun _ _ _ _ _ => rfl)
    obtain ⟨_, _, _, l5, lf⟩ := hm6.get
    have f5 := lf 5
    have HM6 := Lib.hid hm6
    clear hm6 k4 k5 kf lf
    dsimp only at l5
    go_wp2_with fail
    go_end0
    have hm7 : Mk ((w5.setCell ⟨g, 3, none⟩ (.string ⟨#[]⟩)).setCell ⟨g, 5, none⟩ (.int .u64 ((m.many : Int) + 1))) g base ok b { load := ⟨#[]⟩, first := m.first, many := m.many + 1, out := m.out ++ (putO m.load).data.toList, idx := m.idx ++ (entB m).data.toList } := HM6.out.set ⟨#[]⟩ m.first (m.many + 1) 5 _ (fun _ _ _ _ _ => rfl)
    refine ⟨rfl, hm7, ?_⟩
    have hlo : ∀ k, SM g ok k → SM g ok k ∨ w.heap.size ≤ k := fun k hk => .inl hk
    exact ((((Only2.refl (SM g ok) w).below HB1.out).trans HO2.out hlo |>.below HB24.out).trans HO5.out hlo |>.set (p := ⟨g, 3, none⟩) (.inl (.inl rfl)) _).set (p := ⟨g, 5, none⟩) (.inl (.inl rfl)) _
end Go.Proofs.Ytfemjlhfgmbcmaa

namespace Go.Proofs.Ytfemjlhfgmbcmaa
open Go.RowKit Go.Proofs.YtfemjlhfgmbcmaaW.PrintWords Go.Proofs.YtfemjlhfgmbcmaaW.PrintLast Go.Proofs.YtfemjlhfgmbcmaaW.PrintMore
set_option linter.unusedVariables false
set_option linter.unusedSimpArgs false
attribute [local go_sem ↓] Go.wp_at_zero Go.wp_at_succ

/-- A key and its cell. -/
structure RRow where
  k : ByteArray
  s : ByteArray
  gone : Bool
def cellV (x : RRow) : Value := .agg #[.string x.s, .bool x.gone]
def flagB (b : Bool) : ByteArray := if b then ⟨#[1]⟩ else ⟨#[0]⟩
def rowB (x : RRow) : ByteArray := encB x.k.size ++ x.k ++ flagB x.gone ++ (encB x.s.size ++ x.s)
theorem flagB_size (b : Bool) : (flagB b).size = 1 := by cases b <;> rfl
theorem rowB_size (x : RRow) : (rowB x).size = (encB x.k.size).size + x.k.size + 1 + ((encB x.s.size).size + x.s.size) := by
  unfold rowB
  rw [ByteArray.size_append, ByteArray.size_append, ByteArray.size_append, ByteArray.size_append, flagB_size]
/-- Why a key and its cell may not be. -/
def mayN (x : RRow) : Nat := if 64 < x.k.size ∨ 16384 < x.s.size then 13 else if x.gone = true ∧ x.s.size ≠ 0 then 1 else 0
def appS (m : MS) (x : RRow) : MS := if m.load.size = 0 then { load := m.load ++ rowB x, first := x.k, many := m.many, out := m.out, idx := m.idx } else { load := m.load ++ rowB x, first := m.first, many := m.many, out := m.out, idx := m.idx }
def addS (b : Int) (m : MS) (x : RRow) : MS := appS (if b ≤ m.load.size then closeS m else m) x
theorem closeS_load (m : MS) : (closeS m).load.size = 0 := by
  unfold closeS
  by_cases h : m.load.size = 0
  · rw [if_pos h]; exact h
  · rw [if_neg h]; rfl

set_option maxRecDepth 100000 in
theorem flag_calls (x : RRow) (w : World) : Calls Try.prog 102 #[cellV x] w fun e w' => e = .returned (.string (flagB x.gone)) ∧ Below w.heap.size w w' := by
  obtain ⟨k, s, gone⟩ := x
  have HB := Lib.hid (below_alloc (Below.refl w.heap.size w) (.cells #[.string s, .bool gone] 38))
  unfold cellV
  dsimp only
  cases gone
  · go_enter Try.func102, Try.ntmps102
    go_wp2_with fail
    go_ret
    exact ⟨rfl, HB.out⟩
  · go_enter Try.func102, Try.ntmps102
    go_wp2_with fail
    go_ret
    exact ⟨rfl, HB.out⟩
set_option maxRecDepth 100000 in
theorem may_calls (x : RRow) (w : World) : Calls Try.prog 77 #[.string x.k, cellV x] w fun e w' => e = .returned (.int .i64 (mayN x)) ∧ Below w.heap.size w w' := by
  obtain ⟨k, s, gone⟩ := x
  have HB := Lib.hid (below_alloc (Below.refl w.heap.size w) (.cells #[.string s, .bool gone] 38))
  unfold cellV
  dsimp only
  by_cases h1 : 64 < k.size
  · have hd1 : decide ((64 : Int) < (k.size : Int)) = true := by simp; omega
    rw [show mayN ⟨k, s, gone⟩ = 13 by unfold mayN; rw [if_pos (.inl h1)]]
    go_enter Try.func77, Try.ntmps77
    go_wp2_with fail
    go_ret
    exact ⟨rfl, HB.out⟩
  · have hd1 : decide ((64 : Int) < (k.size : Int)) = false := by simp; omega
    by_cases h2 : 16384 < s.size
    · have hd2 : decide ((16384 : Int) < (s.size : Int)) = true := by simp; omega
      rw [show mayN ⟨k, s, gone⟩ = 13 by unfold mayN; rw [if_pos (.inr h2)]]
      go_enter Try.func77, Try.ntmps77
      go_wp2_with fail
      go_ret
      exact ⟨rfl, HB.out⟩
    · have hd2 : decide ((16384 : Int) < (s.size : Int)) = false := by simp; omega
      cases gone
      · rw [show mayN ⟨k, s, false⟩ = 0 by unfold mayN; rw [if_neg (by simp; omega), if_neg (by simp)]]
        go_enter Try.func77, Try.ntmps77
        go_wp2_with fail
        go_ret
        exact ⟨rfl, HB.out⟩
      · by_cases hz : s.size = 0
        · have hz2 : s.toList = [] := str_none hz
          rw [show mayN ⟨k, s, true⟩ = 0 by unfold mayN; rw [if_neg (by simp; omega), if_neg (fun h => h.2 hz)]]
          go_enter Try.func77, Try.ntmps77
          go_wp2_with fail
          go_ret
          exact ⟨rfl, HB.out⟩
        · have hz2 := str_some (show 0 < s.size by omega)
          rw [show mayN ⟨k, s, true⟩ = 1 by unfold mayN; rw [if_neg (by simp; omega), if_pos ⟨rfl, hz⟩]]
          go_enter Try.func77, Try.ntmps77
          go_wp2_with fail
          go_ret
          exact ⟨rfl, HB.out⟩
theorem rangeAt_of_blk {w : World} {g : Nat} {t : TypeId} {cs : List Value} (h : w.heap[g]? = some (.cells cs.toArray t (0, 0))) : w.rangeAt g 0 cs := fun j u hu => by
  rw [Nat.zero_add, blk_cell h]; simpa using hu
set_option maxRecDepth 100000 in
set_option maxHeartbeats 16000000 in
theorem add_calls (g base : Nat) (ok : Nat → Prop) (b : Int) (m : MS) (x : RRow) (w : World) (h : Mk w g base ok b m) (hb : base ≤ w.heap.size) (hfr : ∀ k, w.heap.size ≤ k → ok k) (hf : m.first.size ≤ 1048576) (hld : m.load.size ≤ 1048576) (ho : m.out.length ≤ 1099511627776) (hi : m.idx.length ≤ 1099511627776) (hm : m.many < 1099511627776) (hk : x.k.size ≤ 64) (hs : x.s.size ≤ 16384) :
    Calls Try.prog 78 #[.pointer (some ⟨g, 0, none⟩), .string x.k, cellV x] w fun e w' => e = .returned (.tuple #[]) ∧ Mk w' g base ok b (addS b m x) ∧ Only2 (SM g ok) w w' := by
  obtain ⟨k, s, gone⟩ := x
  dsimp only at hk hs
  unfold cellV
  dsimp only
  obtain ⟨ok1, hok1⟩ : ∃ ok1 : Nat → Prop, ok1 = fun k => ok k ∧ k ≠ w.heap.size := ⟨_, rfl⟩
  have hbel : Below w.heap.size w (w.alloc (.cells #[.string s, .bool gone] 38)).drew := below_drew1 (below_alloc (Below.refl _ _) _)
  have hog : ∀ k, ok k → k ≠ g := by obtain ⟨_, _, _, _, _, _, _, _, _, _, _, _, hog⟩ := h; exact hog
  have hma : Mk (w.alloc (.cells #[.string s, .bool gone] 38)).drew g base ok1 b m := (h.mono (ok' := ok1) (fun k hk hl => by rw [hok1]; exact ⟨hk, by omega⟩) (fun k hk => by rw [hok1] at hk; exact hog k hk.1)).below hbel
  have HMA := Lib.hid hma
  have HOG := Lib.hid hog
  have HOA := Lib.hid (show Only2 (SM g ok1) w (w.alloc (.cells #[.string s, .bool gone] 38)).drew from (Only2.refl _ _).below hbel)
  have HFR := Lib.hid (show ∀ k, w.heap.size + 1 ≤ k → ok1 k from fun k hk => by rw [hok1]; exact ⟨hfr k (by omega), by omega⟩)
  have HB := Lib.hid hb
  have HF := Lib.hid hf
  have HLD := Lib.hid hld
  have HO := Lib.hid ho
  have HI := Lib.hid hi
  have HMM := Lib.hid hm
  have HGL := Lib.hid h.lt
  obtain ⟨_, q0, _, _, _⟩ := hma.get
  have HS1 := Lib.hid (show (w.alloc (.cells #[.string s, .bool gone] 38)).drew.cell? ⟨g, 0, none⟩ = some (.int .i64 b) ∧ (w.alloc (.cells #[.string s, .bool gone] 38)).drew.cell? ⟨g, 3, none⟩ = some (.string m.load) from ⟨hma.get.1, hma.get.2.1⟩)
  obtain ⟨bb, hbb⟩ : ∃ bb, decide (b ≤ (m.load.size : Int)) = bb := ⟨_, rfl⟩
  clear q0 h hb hfr hf hld ho hi hm hma hog hbel
  go_enter Try.func78, Try.ntmps78
  go_wp2_with fail
  refine start_ (n := 10) (S := fun w' => w'.cell? ⟨g, 0, none⟩ = some (.int .i64 b) ∧ w'.cell? ⟨g, 3, none⟩ = some (.string m.load)) (ds := []) #[false, false, false, false, false, false, false, false, false, false] (by kernel_rfl) rfl rfl (HS1.out) (fun hHeld => ?_)
  refine pure_ (i := 0) (N := some 6) (v := ?_) (a' := ?_) #[true, false, false, false, false, false, false, false, false, false] rfl rfl (by kernel_rfl) (fun _ _ _ h => h) (Or.inl ⟨by rfl, ?_⟩) ?_ ?_
  rotate_left
  · intro w'
    go_simp
    with_reducible rfl
  rotate_left
  · simp only [Act.put, List.setIfInBounds_toArray, List.set_cons_zero, List.set_cons_succ, i64_w, i32_w]
    rfl
  refine pure_ (i := 1) (N := some 7) (v := ?_) (a' := ?_) #[true, true, false, false, false, false, false, false, false, false] rfl rfl (by kernel_rfl) (fun _ _ _ h => h) (Or.inl ⟨by rfl, ?_⟩) ?_ ?_
  rotate_left
  · intro w'
    go_simp
    with_reducible rfl
  rotate_left
  · simp only [Act.put, List.setIfInBounds_toArray, List.set_cons_zero, List.set_cons_succ, i64_w, i32_w]
    rfl
  refine pure_ (i := 2) (N := some 8) (v := ?_) (a' := ?_) #[true, true, true, false, false, false, false, false, false, false] rfl rfl (by kernel_rfl) (fun _ _ _ h => h) (Or.inl ⟨by rfl, ?_⟩) ?_ ?_
  rotate_left
  · intro w'
    go_simp
    with_reducible rfl
  rotate_left
  · simp only [Act.put, List.setIfInBounds_toArray, List.set_cons_zero, List.set_cons_succ, i64_w, i32_w]
    rfl
  refine take_ (i := 3) (N := some 9) (v := ?_) (a' := ?_) #[true, true, true, true, false, false, false, false, false, false] rfl rfl (by kernel_rfl) (fun _ _ _ h => h) (Or.inl ⟨by rfl, ?_⟩) hHeld ?_ ?_
  rotate_left
  · rintro w' ⟨s0, s1⟩
    go_simp
    with_reducible rfl
  rotate_left
  · simp only [Act.put, List.setIfInBounds_toArray, List.set_cons_zero, List.set_cons_succ, i64_w, i32_w]
    rfl
  refine pure_ (i := 4) (N := some 10) (v := ?_) (a' := ?_) #[true, true, true, true, true, false, false, false, false, false] rfl rfl (by kernel_rfl) (fun _ _ _ h => h) (Or.inl ⟨by rfl, ?_⟩) ?_ ?_
  rotate_left
  · intro w'
    go_simp
    with_reducible rfl
  rotate_left
  · simp only [Act.put, List.setIfInBounds_toArray, List.set_cons_zero, List.set_cons_succ, i64_w, i32_w]
    rfl
  refine pure_ (i := 5) (N := some 11) (v := ?_) (a' := ?_) #[true, true, true, true, true, true, false, false, false, false] rfl rfl (by kernel_rfl) (fun _ _ _ h => h) (Or.inl ⟨by rfl, ?_⟩) ?_ ?_
  rotate_left
  · intro w'
    go_simp
    with_reducible rfl
  rotate_left
  · simp only [Act.put, List.setIfInBounds_toArray, List.set_cons_zero, List.set_cons_succ, i64_w, i32_w]
    rfl
  refine pure_ (i := 6) (N := some 12) (v := ?_) (a' := ?_) #[true, true, true, true, true, true, true, false, false, false] rfl rfl (by kernel_rfl) (fun _ _ _ h => h) (Or.inl ⟨by rfl, ?_⟩) ?_ ?_
  rotate_left
  · intro w'
    go_simp
    with_reducible rfl
  rotate_left
  · simp only [Act.put, List.setIfInBounds_toArray, List.set_cons_zero, List.set_cons_succ, i64_w, i32_w]
    rfl
  refine pure_ (i := 7) (N := some 13) (v := ?_) (a' := ?_) #[true, true, true, true, true, true, true, true, false, false] rfl rfl (by kernel_rfl) (fun _ _ _ h => h) (Or.inl ⟨by rfl, ?_⟩) ?_ ?_
  rotate_left
  · intro w'
    go_simp
    with_reducible rfl
  rotate_left
  · simp only [Act.put, List.setIfInBounds_toArray, List.set_cons_zero, List.set_cons_succ, i64_w, i32_w]
    rfl
  refine take_ (i := 8) (N := some 14) (v := ?_) (a' := ?_) #[true, true, true, true, true, true, true, true, true, false] rfl rfl (by kernel_rfl) (fun _ _ _ h => h) (Or.inl ⟨by rfl, ?_⟩) hHeld ?_ ?_
  rotate_left
  · rintro w' ⟨s0, s1⟩
    go_simp
    with_reducible rfl
  rotate_left
  · simp only [Act.put, List.setIfInBounds_toArray, List.set_cons_zero, List.set_cons_succ, i64_w, i32_w]
    rfl
  refine pure_ (i := 9) (N := some 15) (v := ?_) (a' := ?_) #[true, true, true, true, true, true, true, true, true, true] rfl rfl (by kernel_rfl) (fun _ _ _ h => h) (Or.inl ⟨by rfl, ?_⟩) ?_ ?_
  rotate_left
  · intro w'
    go_simp
    with_reducible rfl
  rotate_left
  · simp only [Act.put, List.setIfInBounds_toArray, List.set_cons_zero, List.set_cons_succ, i64_w, i32_w]
    rfl
  refine done_ (by kernel_rfl) ?_
  clear hHeld
  obtain ⟨wa, hwa⟩ : ∃ wa, wa = (w.alloc (.cells #[.string s, .bool gone] 38)).drew := ⟨_, rfl⟩
  obtain ⟨g5, hg5⟩ : ∃ g5, g5 = w.heap.size := ⟨_, rfl⟩
  have HZA := Lib.hid (show wa.heap[g5]? = some (.cells #[.string s, .bool gone] 38 (0, 0)) from hwa ▸ hg5 ▸ blk_new w _)
  have HSA := Lib.hid (show wa.heap.size = w.heap.size + 1 by rw [hwa]; show (w.alloc _).heap.size = _; simp)
  have HG5 := Lib.hid (show g < g5 by have := HGL.out; omega)
  have HG5e := Lib.hid hg5
  rw [← hwa] at HMA HOA ⊢
  rw [← hg5]
  have HOK := Lib.hid hok1
  clear HS1 hwa hg5 hok1
  cases bb
  · have HLE := Lib.hid (show ¬ b ≤ (m.load.size : Int) by simpa using hbb)
    have hl1 : m.load.size ≤ 1048576 := HLD.out
    by_cases hz : m.load.size = 0
    · have hz2 : m.load.toList = [] := str_none hz
      obtain ⟨_, i3, i4, _, hfz⟩ := HMA.out.get
      have f4 := hfz 4
      have HADD := Lib.hid (show addS b m ⟨k, s, gone⟩ = { load := m.load ++ rowB ⟨k, s, gone⟩, first := k, many := m.many, out := m.out, idx := m.idx } by unfold addS; rw [if_neg HLE.out]; unfold appS; rw [if_pos hz])
      clear hfz hz
      go_wp2_with fail
      have hm2 : Mk (wa.setCell ⟨g, 4, none⟩ (.string k)) g base ok1 b { load := m.load, first := k, many := m.many, out := m.out, idx := m.idx } := HMA.out.set m.load k m.many 4 _ (fun _ _ _ _ _ => rfl)
      obtain ⟨w2, hw2⟩ : ∃ w2, w2 = (wa.setCell ⟨g, 4, none⟩ (.string k)) := ⟨_, rfl⟩
      obtain ⟨m2, hm2e⟩ : ∃ m2 : MS, m2 = { load := m.load, first := k, many := m.many, out := m.out, idx := m.idx } := ⟨_, rfl⟩
      have HO2 := Lib.hid (show Only2 (SM g ok1) w w2 from hw2 ▸ HOA.out.set (p := ⟨g, 4, none⟩) (.inl (.inl rfl)) _)
      have HZ2 := Lib.hid (show w2.heap[g5]? = some (.cells #[.string s, .bool gone] 38 (0, 0)) from hw2 ▸ (Below.heap_setCell _ ⟨g, 4, none⟩ _ g5 (by show g5 ≠ g; have := HG5.out; omega)).trans HZA.out)
      rw [← hw2, ← hm2e] at hm2
      rw [← hw2]
      have HM2 := Lib.hid hm2
      have HE2 := Lib.hid hm2e
      have hl2 : m2.load.size ≤ 1048576 := by rw [hm2e]; exact hl1
      have HS5 := Lib.hid (show w2.drew.cell? ⟨g, 3, none⟩ = some (.string m2.load) ∧ w2.drew.heap[g5]? = some (.cells #[.string s, .bool gone] 38 (0, 0)) from ⟨hm2.get.2.1, HZ2.out⟩)
      have hks := (encB_le k.size (by omega)).1
      have hss := (encB_le s.size (by omega)).1
      have hfs := flagB_size gone
      have q1 : ¬ (9223372036854775807 < (encB k.size).size + k.size + (flagB gone).size) := by omega
      have q2 : ¬ (9223372036854775807 < (encB k.size).size + k.size + (flagB gone).size + ((encB s.size).size + s.size)) := by omega
      have q3 : ¬ (9223372036854775807 < m2.load.size + ((encB k.size).size + k.size + (flagB gone).size + ((encB s.size).size + s.size))) := by omega
      clear hm2 hm2e hw2 hks hss hfs
      refine start_ (n := 17) (S := fun w' => w'.cell? ⟨g, 3, none⟩ = some (.string m2.load) ∧ w'.heap[g5]? = some (.cells #[.string s, .bool gone] 38 (0, 0))) (ds := [16]) #[false, false, false, false, false, false, false, false, false, false, false, false, false, false, false, false, false] (by kernel_rfl) rfl rfl (HS5.out) (fun hHeld => ?_)
      refine pure_ (i := 0) (N := some 27) (v := ?_) (a' := ?_) #[true, false, false, false, false, false, false, false, false, false, false, false, false, false, false, false, false] rfl rfl (by kernel_rfl) (fun _ _ _ h => h) (Or.inl ⟨by rfl, ?_⟩) ?_ ?_
      rotate_left
      · intro w'
        go_simp
        with_reducible rfl
      rotate_left
      · simp only [Act.put, List.setIfInBounds_toArray, List.set_cons_zero, List.set_cons_succ, i64_w, i32_w]
        rfl
      refine pure_ (i := 1) (N := some 28) (v := ?_) (a' := ?_) #[true, true, false, false, false, false, false, false, false, false, false, false, false, false, false, false, false] rfl rfl (by kernel_rfl) (fun _ _ _ h => h) (Or.inl ⟨by rfl, ?_⟩) ?_ ?_
      rotate_left
      · intro w'
        go_simp
        with_reducible rfl
      rotate_left
      · simp only [Act.put, List.setIfInBounds_toArray, List.set_cons_zero, List.set_cons_succ, i64_w, i32_w]
        rfl
      refine pure_ (i := 2) (N := some 29) (v := ?_) (a' := ?_) #[true, true, true, false, false, false, false, false, false, false, false, false, false, false, false, false, false] rfl rfl (by kernel_rfl) (fun _ _ _ h => h) (Or.inl ⟨by rfl, ?_⟩) ?_ ?_
      rotate_left
      · intro w'
        go_simp
        with_reducible rfl
      rotate_left
      · simp only [Act.put, List.setIfInBounds_toArray, List.set_cons_zero, List.set_cons_succ, i64_w, i32_w]
        rfl
      refine take_ (i := 3) (N := some 30) (v := ?_) (a' := ?_) #[true, true, true, true, false, false, false, false, false, false, false, false, false, false, false, false, false] rfl rfl (by kernel_rfl) (fun _ _ _ h => h) (Or.inl ⟨by rfl, ?_⟩) hHeld ?_ ?_
      rotate_left
      · rintro w' ⟨s0, s1⟩
        go_simp
        with_reducible rfl
      rotate_left
      · simp only [Act.put, List.setIfInBounds_toArray, List.set_cons_zero, List.set_cons_succ, i64_w, i32_w]
        rfl
      refine pure_ (i := 4) (N := some 31) (v := ?_) (a' := ?_) #[true, true, true, true, true, false, false, false, false, false, false, false, false, false, false, false, false] rfl rfl (by kernel_rfl) (fun _ _ _ h => h) (Or.inl ⟨by rfl, ?_⟩) ?_ ?_
      rotate_left
      · intro w'
        go_simp
        with_reducible rfl
      rotate_left
      · simp only [Act.put, List.setIfInBounds_toArray, List.set_cons_zero, List.set_cons_succ, i64_w, i32_w]
        rfl
      refine take_ (i := 6) (N := some 33) (v := .agg #[.string s, .bool gone]) (a' := ?_) #[true, true, true, true, true, false, true, false, false, false, false, false, false, false, false, false, false] rfl rfl (by kernel_rfl) (fun _ _ _ h => h) (yieldsIf_load_mid (by rfl) 38 (.tmp 5) rfl g5 0 rfl [.string s, .bool gone] _ (fun w' h => rangeAt_of_blk h.2) Try.underlying38 rfl (by kernel_rfl)) hHeld ?_ ?_
      rotate_left
      · simp only [Act.put, List.setIfInBounds_toArray, List.set_cons_zero, List.set_cons_succ, i64_w, i32_w]
        rfl
      refine pure_ (i := 9) (N := some 36) (v := ?_) (a' := ?_) #[true, true, true, true, true, false, true, false, false, true, false, false, false, false, false, false, false] rfl rfl (by kernel_rfl) (fun _ _ _ h => h) (Or.inl ⟨by rfl, ?_⟩) ?_ ?_
      rotate_left
      · intro w'
        go_simp
        with_reducible rfl
      rotate_left
      · simp only [Act.put, List.setIfInBounds_toArray, List.set_cons_zero, List.set_cons_succ, i64_w, i32_w]
        rfl
      refine take_ (i := 10) (N := some 37) (v := .string s) (a' := ?_) #[true, true, true, true, true, false, true, false, false, true, true, false, false, false, false, false, false] rfl rfl (by kernel_rfl) (fun _ _ _ h => h) (Or.inl ⟨by rfl, ?_⟩) hHeld ?_ ?_
      · rintro w' ⟨s0, s1⟩
        have s2 := blk_cell s1 0
        go_simp
      rotate_left
      · simp only [Act.put, List.setIfInBounds_toArray, List.set_cons_zero, List.set_cons_succ, i64_w, i32_w]
        rfl
      refine one_ (i := 5) (N := some 32) #[true, true, true, true, true, true, true, false, false, true, true, false, false, false, false, false, false] rfl rfl (by kernel_rfl) (by decide) (fun K hK => ?_)
      refine goes_ Try.func28 (by kernel_rfl) rfl #[.string k] (by rfl) rfl rfl (by simp only [List.map_toArray, List.map_cons, List.map_nil]; rfl) ?_
      refine (WText_calls k _ (by omega)).mono ?_
      rintro e w3 ⟨rfl, hb3⟩
      refine ⟨_, rfl, ?_⟩
      have HB3 := Lib.hid hb3
      clear hb3
      refine hK.out _ _ (⟨pw_cell_below HB3.out hHeld.1, blk_below hHeld.2 HB3.out⟩) (fun hHeld => ?_)
      clear hK K
      refine norm_ (a' := ?_) ?_ ?_
      rotate_left
      · show Act.put _ (some 32) _ = _
        simp only [Act.put, List.setIfInBounds_toArray, List.set_cons_zero, List.set_cons_succ, i64_w, i32_w]
        rfl
      refine one_ (i := 7) (N := some 34) #[true, true, true, true, true, true, true, true, false, true, true, false, false, false, false, false, false] rfl rfl (by kernel_rfl) (by decide) (fun K hK => ?_)
      refine goes_ Try.func102 (by kernel_rfl) rfl #[.agg #[.string s, .bool gone]] (by rfl) rfl rfl (by simp only [List.map_toArray, List.map_cons, List.map_nil]; rfl) ?_
      refine (flag_calls ⟨k, s, gone⟩ w3).mono ?_
      rintro e w4 ⟨rfl, hb4⟩
      refine ⟨_, rfl, ?_⟩
      have HB4 := Lib.hid hb4
      clear hb4
      refine hK.out _ _ (⟨pw_cell_below HB4.out hHeld.1, blk_below hHeld.2 HB4.out⟩) (fun hHeld => ?_)
      clear hK K
      refine norm_ (a' := ?_) ?_ ?_
      rotate_left
      · show Act.put _ (some 34) _ = _
        simp only [Act.put, List.setIfInBounds_toArray, List.set_cons_zero, List.set_cons_succ, i64_w, i32_w]
        rfl
      refine pure_ (i := 8) (N := some 35) (v := ?_) (a' := ?_) #[true, true, true, true, true, true, true, true, true, true, true, false, false, false, false, false, false] rfl rfl (by kernel_rfl) (fun _ _ _ h => h) (Or.inl ⟨by rfl, ?_⟩) ?_ ?_
      rotate_left
      · intro w'
        go_simp
        with_reducible rfl
      rotate_left
      · simp only [Act.put, List.setIfInBounds_toArray, List.set_cons_zero, List.set_cons_succ, i64_w, i32_w]
        rfl
      refine one_ (i := 11) (N := some 38) #[true, true, true, true, true, true, true, true, true, true, true, true, false, false, false, false, false] rfl rfl (by kernel_rfl) (by decide) (fun K hK => ?_)
      refine goes_ Try.func28 (by kernel_rfl) rfl #[.string s] (by rfl) rfl rfl (by simp only [List.map_toArray, List.map_cons, List.map_nil]; rfl) ?_
      refine (WText_calls s w4 (by omega)).mono ?_
      rintro e w5 ⟨rfl, hb5⟩
      refine ⟨_, rfl, ?_⟩
      have HB5 := Lib.hid hb5
      clear hb5
      refine hK.out _ _ (⟨pw_cell_below HB5.out hHeld.1, blk_below hHeld.2 HB5.out⟩) (fun hHeld => ?_)
      clear hK K
      refine norm_ (a' := ?_) ?_ ?_
      rotate_left
      · show Act.put _ (some 38) _ = _
        simp only [Act.put, List.setIfInBounds_toArray, List.set_cons_zero, List.set_cons_succ, i64_w, i32_w]
        rfl
      refine pure_ (i := 12) (N := some 39) (v := ?_) (a' := ?_) #[true, true, true, true, true, true, true, true, true, true, true, true, true, false, false, false, false] rfl rfl (by kernel_rfl) (fun _ _ _ h => h) (Or.inl ⟨by rfl, ?_⟩) ?_ ?_
      rotate_left
      · intro w'
        go_simp
        with_reducible rfl
      rotate_left
      · simp only [Act.put, List.setIfInBounds_toArray, List.set_cons_zero, List.set_cons_succ, i64_w, i32_w]
        rfl
      refine pure_ (i := 13) (N := some 40) (v := ?_) (a' := ?_) #[true, true, true, true, true, true, true, true, true, true, true, true, true, true, false, false, false] rfl rfl (by kernel_rfl) (fun _ _ _ h => h) (Or.inl ⟨by rfl, ?_⟩) ?_ ?_
      rotate_left
      · intro w'
        go_simp
        with_reducible rfl
      rotate_left
      · simp only [Act.put, List.setIfInBounds_toArray, List.set_cons_zero, List.set_cons_succ, i64_w, i32_w]
        rfl
      refine pure_ (i := 14) (N := some 41) (v := ?_) (a' := ?_) #[true, true, true, true, true, true, true, true, true, true, true, true, true, true, true, false, false] rfl rfl (by kernel_rfl) (fun _ _ _ h => h) (Or.inl ⟨by rfl, ?_⟩) ?_ ?_
      rotate_left
      · intro w'
        go_simp
        with_reducible rfl
      rotate_left
      · simp only [Act.put, List.setIfInBounds_toArray, List.set_cons_zero, List.set_cons_succ, i64_w, i32_w]
        rfl
      refine pure_ (i := 15) (N := some 42) (v := ?_) (a' := ?_) #[true, true, true, true, true, true, true, true, true, true, true, true, true, true, true, true, false] rfl rfl (by kernel_rfl) (fun _ _ _ h => h) (Or.inl ⟨by rfl, ?_⟩) ?_ ?_
      rotate_left
      · intro w'
        go_simp
        with_reducible rfl
      rotate_left
      · simp only [Act.put, List.setIfInBounds_toArray, List.set_cons_zero, List.set_cons_succ, i64_w, i32_w]
        rfl
      refine last_ (i := 16) (N := none) #[true, true, true, true, true, true, true, true, true, true, true, true, true, true, true, true, true] rfl rfl (by kernel_rfl) (by decide) (fun K hK => ?_)
      have hbA : Below w2.heap.size w2 w5 := (below_drew1 (Below.refl _ _)).trans ((HB3.out.trans (HB4.out.mono HB3.out.size)).trans (HB5.out.mono (by have := HB3.out.size; have := HB4.out.size; omega)))
      have hm5 := HM2.out.below hbA
      have HM5 := Lib.hid hm5
      have HBA := Lib.hid hbA
      have hc5 := hm5.get.2.1
      have hf5 := hm5.get.2.2.2.2 3
      clear hbA hm5
      refine skip_ (w1 := w5.setCell ⟨g, 3, none⟩ (.string (m2.load ++ (encB k.size ++ k ++ flagB gone ++ (encB s.size ++ s))))) (by rfl) rfl (by go_simp) ?_
      clear hc5 hf5
      refine hK.out _ _ ?_
      clear hK K
      refine done_ (by kernel_rfl) ?_
      clear hHeld
      go_wp2_with fail
      go_end0
      have hm9 : Mk (w5.setCell ⟨g, 3, none⟩ (.string (m2.load ++ (encB k.size ++ k ++ flagB gone ++ (encB s.size ++ s))))) g base ok1 b { load := m2.load ++ rowB ⟨k, s, gone⟩, first := m2.first, many := m2.many, out := m2.out, idx := m2.idx } := HM5.out.set (m2.load ++ rowB ⟨k, s, gone⟩) m2.first m2.many 3 _ (fun _ _ _ _ _ => rfl)
      refine ⟨rfl, ?_, ?_⟩
      · have he : addS b m ⟨k, s, gone⟩ = { load := m2.load ++ rowB ⟨k, s, gone⟩, first := m2.first, many := m2.many, out := m2.out, idx := m2.idx } := by rw [HE2.out]; exact HADD.out
        rw [he]
        exact hm9.mono (fun k hk _ => by rw [HOK.out] at hk; exact hk.1) HOG.out
      · exact ((HO2.out.below HBA.out).set (p := ⟨g, 3, none⟩) (.inl (.inl rfl)) _).mono (fun k hk => .inl (hk.imp id (fun h => by rw [HOK.out] at h; exact h.1)))
    · have hz2 := str_some (show 0 < m.load.size by omega)
      obtain ⟨_, i3, _, _, _⟩ := HMA.out.get
      have HADD := Lib.hid (show addS b m ⟨k, s, gone⟩ = { load := m.load ++ rowB ⟨k, s, gone⟩, first := m.first, many := m.many, out := m.out, idx := m.idx } by unfold addS; rw [if_neg HLE.out]; unfold appS; rw [if_neg hz])
      clear hz
      go_wp2_with fail
      have hm2 : Mk wa g base ok1 b m := HMA.out
      obtain ⟨w2, hw2⟩ : ∃ w2, w2 = wa := ⟨_, rfl⟩
      obtain ⟨m2, hm2e⟩ : ∃ m2 : MS, m2 = m := ⟨_, rfl⟩
      have HO2 := Lib.hid (show Only2 (SM g ok1) w w2 from hw2 ▸ HOA.out)
      have HZ2 := Lib.hid (show w2.heap[g5]? = some (.cells #[.string s, .bool gone] 38 (0, 0)) from hw2 ▸ HZA.out)
      rw [← hw2, ← hm2e] at hm2
      rw [← hw2]
      have HM2 := Lib.hid hm2
      have HE2 := Lib.hid hm2e
      have hl2 : m2.load.size ≤ 1048576 := by rw [hm2e]; exact hl1
      have HS5 := Lib.hid (show w2.drew.cell? ⟨g, 3, none⟩ = some (.string m2.load) ∧ w2.drew.heap[g5]? = some (.cells #[.string s, .bool gone] 38 (0, 0)) from ⟨hm2.get.2.1, HZ2.out⟩)
      have hks := (encB_le k.size (by omega)).1
      have hss := (encB_le s.size (by omega)).1
      have hfs := flagB_size gone
      have q1 : ¬ (9223372036854775807 < (encB k.size).size + k.size + (flagB gone).size) := by omega
      have q2 : ¬ (9223372036854775807 < (encB k.size).size + k.size + (flagB gone).size + ((encB s.size).size + s.size)) := by omega
      have q3 : ¬ (9223372036854775807 < m2.load.size + ((encB k.size).size + k.size + (flagB gone).size + ((encB s.size).size + s.size))) := by omega
      clear hm2 hm2e hw2 hks hss hfs
      refine start_ (n := 17) (S := fun w' => w'.cell? ⟨g, 3, none⟩ = some (.string m2.load) ∧ w'.heap[g5]? = some (.cells #[.string s, .bool gone] 38 (0, 0))) (ds := [16]) #[false, false, false, false, false, false, false, false, false, false, false, false, false, false, false, false, false] (by kernel_rfl) rfl rfl (HS5.out) (fun hHeld => ?_)
      refine pure_ (i := 0) (N := some 27) (v := ?_) (a' := ?_) #[true, false, false, false, false, false, false, false, false, false, false, false, false, false, false, false, false] rfl rfl (by kernel_rfl) (fun _ _ _ h => h) (Or.inl ⟨by rfl, ?_⟩) ?_ ?_
      rotate_left
      · intro w'
        go_simp
        with_reducible rfl
      rotate_left
      · simp only [Act.put, List.setIfInBounds_toArray, List.set_cons_zero, List.set_cons_succ, i64_w, i32_w]
        rfl
      refine pure_ (i := 1) (N := some 28) (v := ?_) (a' := ?_) #[true, true, false, false, false, false, false, false, false, false, false, false, false, false, false, false, false] rfl rfl (by kernel_rfl) (fun _ _ _ h => h) (Or.inl ⟨by rfl, ?_⟩) ?_ ?_
      rotate_left
      · intro w'
        go_simp
        with_reducible rfl
      rotate_left
      · simp only [Act.put, List.setIfInBounds_toArray, List.set_cons_zero, List.set_cons_succ, i64_w, i32_w]
        rfl
      refine pure_ (i := 2) (N := some 29) (v := ?_) (a' := ?_) #[true, true, true, false, false, false, false, false, false, false, false, false, false, false, false, false, false] rfl rfl (by kernel_rfl) (fun _ _ _ h => h) (Or.inl ⟨by rfl, ?_⟩) ?_ ?_
      rotate_left
      · intro w'
        go_simp
        with_reducible rfl
      rotate_left
      · simp only [Act.put, List.setIfInBounds_toArray, List.set_cons_zero, List.set_cons_succ, i64_w, i32_w]
        rfl
      refine take_ (i := 3) (N := some 30) (v := ?_) (a' := ?_) #[true, true, true, true, false, false, false, false, false, false, false, false, false, false, false, false, false] rfl rfl (by kernel_rfl) (fun _ _ _ h => h) (Or.inl ⟨by rfl, ?_⟩) hHeld ?_ ?_
      rotate_left
      · rintro w' ⟨s0, s1⟩
        go_simp
        with_reducible rfl
      rotate_left
      · simp only [Act.put, List.setIfInBounds_toArray, List.set_cons_zero, List.set_cons_succ, i64_w, i32_w]
        rfl
      refine pure_ (i := 4) (N := some 31) (v := ?_) (a' := ?_) #[true, true, true, true, true, false, false, false, false, false, false, false, false, false, false, false, false] rfl rfl (by kernel_rfl) (fun _ _ _ h => h) (Or.inl ⟨by rfl, ?_⟩) ?_ ?_
      rotate_left
      · intro w'
        go_simp
        with_reducible rfl
      rotate_left
      · simp only [Act.put, List.setIfInBounds_toArray, List.set_cons_zero, List.set_cons_succ, i64_w, i32_w]
        rfl
      refine take_ (i := 6) (N := some 33) (v := .agg #[.string s, .bool gone]) (a' := ?_) #[true, true, true, true, true, false, true, false, false, false, false, false, false, false, false, false, false] rfl rfl (by kernel_rfl) (fun _ _ _ h => h) (yieldsIf_load_mid (by rfl) 38 (.tmp 5) rfl g5 0 rfl [.string s, .bool gone] _ (fun w' h => rangeAt_of_blk h.2) Try.underlying38 rfl (by kernel_rfl)) hHeld ?_ ?_
      rotate_left
      · simp only [Act.put, List.setIfInBounds_toArray, List.set_cons_zero, List.set_cons_succ, i64_w, i32_w]
        rfl
      refine pure_ (i := 9) (N := some 36) (v := ?_) (a' := ?_) #[true, true, true, true, true, false, true, false, false, true, false, false, false, false, false, false, false] rfl rfl (by kernel_rfl) (fun _ _ _ h => h) (Or.inl ⟨by rfl, ?_⟩) ?_ ?_
      rotate_left
      · intro w'
        go_simp
        with_reducible rfl
      rotate_left
      · simp only [Act.put, List.setIfInBounds_toArray, List.set_cons_zero, List.set_cons_succ, i64_w, i32_w]
        rfl
      refine take_ (i := 10) (N := some 37) (v := .string s) (a' := ?_) #[true, true, true, true, true, false, true, false, false, true, true, false, false, false, false, false, false] rfl rfl (by kernel_rfl) (fun _ _ _ h => h) (Or.inl ⟨by rfl, ?_⟩) hHeld ?_ ?_
      · rintro w' ⟨s0, s1⟩
        have s2 := blk_cell s1 0
        go_simp
      rotate_left
      · simp only [Act.put, List.setIfInBounds_toArray, List.set_cons_zero, List.set_cons_succ, i64_w, i32_w]
        rfl
      refine one_ (i := 5) (N := some 32) #[true, true, true, true, true, true, true, false, false, true, true, false, false, false, false, false, false] rfl rfl (by kernel_rfl) (by decide) (fun K hK => ?_)
      refine goes_ Try.func28 (by kernel_rfl) rfl #[.string k] (by rfl) rfl rfl (by simp only [List.map_toArray, List.map_cons, List.map_nil]; rfl) ?_
      refine (WText_calls k _ (by omega)).mono ?_
      rintro e w3 ⟨rfl, hb3⟩
      refine ⟨_, rfl, ?_⟩
      have HB3 := Lib.hid hb3
      clear hb3
      refine hK.out _ _ (⟨pw_cell_below HB3.out hHeld.1, blk_below hHeld.2 HB3.out⟩) (fun hHeld => ?_)
      clear hK K
      refine norm_ (a' := ?_) ?_ ?_
      rotate_left
      · show Act.put _ (some 32) _ = _
        simp only [Act.put, List.setIfInBounds_toArray, List.set_cons_zero, List.set_cons_succ, i64_w, i32_w]
        rfl
      refine one_ (i := 7) (N := some 34) #[true, true, true, true, true, true, true, true, false, true, true, false, false, false, false, false, false] rfl rfl (by kernel_rfl) (by decide) (fun K hK => ?_)
      refine goes_ Try.func102 (by kernel_rfl) rfl #[.agg #[.string s, .bool gone]] (by rfl) rfl rfl (by simp only [List.map_toArray, List.map_cons, List.map_nil]; rfl) ?_
      refine (flag_calls ⟨k, s, gone⟩ w3).mono ?_
      rintro e w4 ⟨rfl, hb4⟩
      refine ⟨_, rfl, ?_⟩
      have HB4 := Lib.hid hb4
      clear hb4
      refine hK.out _ _ (⟨pw_cell_below HB4.out hHeld.1, blk_below hHeld.2 HB4.out⟩) (fun hHeld => ?_)
      clear hK K
      refine norm_ (a' := ?_) ?_ ?_
      rotate_left
      · show Act.put _ (some 34) _ = _
        simp only [Act.put, List.setIfInBounds_toArray, List.set_cons_zero, List.set_cons_succ, i64_w, i32_w]
        rfl
      refine pure_ (i := 8) (N := some 35) (v := ?_) (a' := ?_) #[true, true, true, true, true, true, true, true, true, true, true, false, false, false, false, false, false] rfl rfl (by kernel_rfl) (fun _ _ _ h => h) (Or.inl ⟨by rfl, ?_⟩) ?_ ?_
      rotate_left
      · intro w'
        go_simp
        with_reducible rfl
      rotate_left
      · simp only [Act.put, List.setIfInBounds_toArray, List.set_cons_zero, List.set_cons_succ, i64_w, i32_w]
        rfl
      refine one_ (i := 11) (N := some 38) #[true, true, true, true, true, true, true, true, true, true, true, true, false, false, false, false, false] rfl rfl (by kernel_rfl) (by decide) (fun K hK => ?_)
      refine goes_ Try.func28 (by kernel_rfl) rfl #[.string s] (by rfl) rfl rfl (by simp only [List.map_toArray, List.map_cons, List.map_nil]; rfl) ?_
      refine (WText_calls s w4 (by omega)).mono ?_
      rintro e w5 ⟨rfl, hb5⟩
      refine ⟨_, rfl, ?_⟩
      have HB5 := Lib.hid hb5
      clear hb5
      refine hK.out _ _ (⟨pw_cell_below HB5.out hHeld.1, blk_below hHeld.2 HB5.out⟩) (fun hHeld => ?_)
      clear hK K
      refine norm_ (a' := ?_) ?_ ?_
      rotate_left
      · show Act.put _ (some 38) _ = _
        simp only [Act.put, List.setIfInBounds_toArray, List.set_cons_zero, List.set_cons_succ, i64_w, i32_w]
        rfl
      refine pure_ (i := 12) (N := some 39) (v := ?_) (a' := ?_) #[true, true, true, true, true, true, true, true, true, true, true, true, true, false, false, false, false] rfl rfl (by kernel_rfl) (fun _ _ _ h => h) (Or.inl ⟨by rfl, ?_⟩) ?_ ?_
      rotate_left
      · intro w'
        go_simp
        with_reducible rfl
      rotate_left
      · simp only [Act.put, List.setIfInBounds_toArray, List.set_cons_zero, List.set_cons_succ, i64_w, i32_w]
        rfl
      refine pure_ (i := 13) (N := some 40) (v := ?_) (a' := ?_) #[true, true, true, true, true, true, true, true, true, true, true, true, true, true, false, false, false] rfl rfl (by kernel_rfl) (fun _ _ _ h => h) (Or.inl ⟨by rfl, ?_⟩) ?_ ?_
      rotate_left
      · intro w'
        go_simp
        with_reducible rfl
      rotate_left
      · simp only [Act.put, List.setIfInBounds_toArray, List.set_cons_zero, List.set_cons_succ, i64_w, i32_w]
        rfl
      refine pure_ (i := 14) (N := some 41) (v := ?_) (a' := ?_) #[true, true, true, true, true, true, true, true, true, true, true, true, true, true, true, false, false] rfl rfl (by kernel_rfl) (fun _ _ _ h => h) (Or.inl ⟨by rfl, ?_⟩) ?_ ?_
      rotate_left
      · intro w'
        go_simp
        with_reducible rfl
      rotate_left
      · simp only [Act.put, List.setIfInBounds_toArray, List.set_cons_zero, List.set_cons_succ, i64_w, i32_w]
        rfl
      refine pure_ (i := 15) (N := some 42) (v := ?_) (a' := ?_) #[true, true, true, true, true, true, true, true, true, true, true, true, true, true, true, true, false] rfl rfl (by kernel_rfl) (fun _ _ _ h => h) (Or.inl ⟨by rfl, ?_⟩) ?_ ?_
      rotate_left
      · intro w'
        go_simp
        with_reducible rfl
      rotate_left
      · simp only [Act.put, List.setIfInBounds_toArray, List.set_cons_zero, List.set_cons_succ, i64_w, i32_w]
        rfl
      refine last_ (i := 16) (N := none) #[true, true, true, true, true, true, true, true, true, true, true, true, true, true, true, true, true] rfl rfl (by kernel_rfl) (by decide) (fun K hK => ?_)
      have hbA : Below w2.heap.size w2 w5 := (below_drew1 (Below.refl _ _)).trans ((HB3.out.trans (HB4.out.mono HB3.out.size)).trans (HB5.out.mono (by have := HB3.out.size; have := HB4.out.size; omega)))
      have hm5 := HM2.out.below hbA
      have HM5 := Lib.hid hm5
      have HBA := Lib.hid hbA
      have hc5 := hm5.get.2.1
      have hf5 := hm5.get.2.2.2.2 3
      clear hbA hm5
      refine skip_ (w1 := w5.setCell ⟨g, 3, none⟩ (.string (m2.load ++ (encB k.size ++ k ++ flagB gone ++ (encB s.size ++ s))))) (by rfl) rfl (by go_simp) ?_
      clear hc5 hf5
      refine hK.out _ _ ?_
      clear hK K
      refine done_ (by kernel_rfl) ?_
      clear hHeld
      go_wp2_with fail
      go_end0
      have hm9 : Mk (w5.setCell ⟨g, 3, none⟩ (.string (m2.load ++ (encB k.size ++ k ++ flagB gone ++ (encB s.size ++ s))))) g base ok1 b { load := m2.load ++ rowB ⟨k, s, gone⟩, first := m2.first, many := m2.many, out := m2.out, idx := m2.idx } := HM5.out.set (m2.load ++ rowB ⟨k, s, gone⟩) m2.first m2.many 3 _ (fun _ _ _ _ _ => rfl)
      refine ⟨rfl, ?_, ?_⟩
      · have he : addS b m ⟨k, s, gone⟩ = { load := m2.load ++ rowB ⟨k, s, gone⟩, first := m2.first, many := m2.many, out := m2.out, idx := m2.idx } := by rw [HE2.out]; exact HADD.out
        rw [he]
        exact hm9.mono (fun k hk _ => by rw [HOK.out] at hk; exact hk.1) HOG.out
      · exact ((HO2.out.below HBA.out).set (p := ⟨g, 3, none⟩) (.inl (.inl rfl)) _).mono (fun k hk => .inl (hk.imp id (fun h => by rw [HOK.out] at h; exact h.1)))
  · have HLE := Lib.hid (show b ≤ (m.load.size : Int) by simpa using hbb)
    obtain ⟨m1, hm1⟩ : ∃ m1, m1 = closeS m := ⟨_, rfl⟩
    have hz : m1.load.size = 0 := by rw [hm1]; exact closeS_load m
    have hl1 : m1.load.size ≤ 1048576 := by omega
    have hz2 : m1.load.toList = [] := str_none hz
    have HC := Lib.hid (close_calls g base ok1 b m wa HMA.out (by have := HSA.out; have := HB.out; omega) (fun k hk => HFR.out k (by have := HSA.out; omega)) HF.out HLD.out HO.out HI.out HMM.out)
    rw [← hm1] at HC
    have HADD := Lib.hid (show addS b m ⟨k, s, gone⟩ = { load := m1.load ++ rowB ⟨k, s, gone⟩, first := k, many := m1.many, out := m1.out, idx := m1.idx } by unfold addS; rw [if_pos HLE.out, ← hm1]; unfold appS; rw [if_pos hz])
    have HZA0 := HZA
    have HOA0 := HOA
    clear HMA hm1 HZA HOA hz
    go_wp2_with (go_at_call 79; refine HC.out.mono ?_; rintro e wb ⟨rfl, hmb, hob⟩; have HMA := Lib.hid hmb; have HZA := Lib.hid (hob.blk HZA0.out (by rintro (e | e); have := HG5.out; omega; rw [HOK.out] at e; exact e.2 HG5e.out)); have HOA := Lib.hid (HOA0.out.trans hob (fun k hk => .inl hk)); obtain ⟨_, i3, i4, _, hfz⟩ := hmb.get; have f4 := hfz 4; clear hmb hob hfz)
    have hm2 : Mk (wb.setCell ⟨g, 4, none⟩ (.string k)) g base ok1 b { load := m1.load, first := k, many := m1.many, out := m1.out, idx := m1.idx } := HMA.out.set m1.load k m1.many 4 _ (fun _ _ _ _ _ => rfl)
    obtain ⟨w2, hw2⟩ : ∃ w2, w2 = (wb.setCell ⟨g, 4, none⟩ (.string k)) := ⟨_, rfl⟩
    obtain ⟨m2, hm2e⟩ : ∃ m2 : MS, m2 = { load := m1.load, first := k, many := m1.many, out := m1.out, idx := m1.idx } := ⟨_, rfl⟩
    have HO2 := Lib.hid (show Only2 (SM g ok1) w w2 from hw2 ▸ HOA.out.set (p := ⟨g, 4, none⟩) (.inl (.inl rfl)) _)
    have HZ2 := Lib.hid (show w2.heap[g5]? = some (.cells #[.string s, .bool gone] 38 (0, 0)) from hw2 ▸ (Below.heap_setCell _ ⟨g, 4, none⟩ _ g5 (by show g5 ≠ g; have := HG5.out; omega)).trans HZA.out)
    rw [← hw2, ← hm2e] at hm2
    rw [← hw2]
    have HM2 := Lib.hid hm2
    have HE2 := Lib.hid hm2e
    have hl2 : m2.load.size ≤ 1048576 := by rw [hm2e]; exact hl1
    have HS5 := Lib.hid (show w2.drew.cell? ⟨g, 3, none⟩ = some (.string m2.load) ∧ w2.drew.heap[g5]? = some (.cells #[.string s, .bool gone] 38 (0, 0)) from ⟨hm2.get.2.1, HZ2.out⟩)
    have hks := (encB_le k.size (by omega)).1
    have hss := (encB_le s.size (by omega)).1
    have hfs := flagB_size gone
    have q1 : ¬ (9223372036854775807 < (encB k.size).size + k.size + (flagB gone).size) := by omega
    have q2 : ¬ (9223372036854775807 < (encB k.size).size + k.size + (flagB gone).size + ((encB s.size).size + s.size)) := by omega
    have q3 : ¬ (9223372036854775807 < m2.load.size + ((encB k.size).size + k.size + (flagB gone).size + ((encB s.size).size + s.size))) := by omega
    clear hm2 hm2e hw2 hks hss hfs
    refine start_ (n := 17) (S := fun w' => w'.cell? ⟨g, 3, none⟩ = some (.string m2.load) ∧ w'.heap[g5]? = some (.cells #[.string s, .bool gone] 38 (0, 0))) (ds := [16]) #[false, false, false, false, false, false, false, false, false, false, false, false, false, false, false, false, false] (by kernel_rfl) rfl rfl (HS5.out) (fun hHeld => ?_)
    refine pure_ (i := 0) (N := some 27) (v := ?_) (a' := ?_) #[true, false, false, false, false, false, false, false, false, false, false, false, false, false, false, false, false] rfl rfl (by kernel_rfl) (fun _ _ _ h => h) (Or.inl ⟨by rfl, ?_⟩) ?_ ?_
    rotate_left
    · intro w'
      go_simp
      with_reducible rfl
    rotate_left
    · simp only [Act.put, List.setIfInBounds_toArray, List.set_cons_zero, List.set_cons_succ, i64_w, i32_w]
      rfl
    refine pure_ (i := 1) (N := some 28) (v := ?_) (a' := ?_) #[true, true, false, false, false, false, false, false, false, false, false, false, false, false, false, false, false] rfl rfl (by kernel_rfl) (fun _ _ _ h => h) (Or.inl ⟨by rfl, ?_⟩) ?_ ?_
    rotate_left
    · intro w'
      go_simp
      with_reducible rfl
    rotate_left
    · simp only [Act.put, List.setIfInBounds_toArray, List.set_cons_zero, List.set_cons_succ, i64_w, i32_w]
      rfl
    refine pure_ (i := 2) (N := some 29) (v := ?_) (a' := ?_) #[true, true, true, false, false, false, false, false, false, false, false, false, false, false, false, false, false] rfl rfl (by kernel_rfl) (fun _ _ _ h => h) (Or.inl ⟨by rfl, ?_⟩) ?_ ?_
    rotate_left
    · intro w'
      go_simp
      with_reducible rfl
    rotate_left
    · simp only [Act.put, List.setIfInBounds_toArray, List.set_cons_zero, List.set_cons_succ, i64_w, i32_w]
      rfl
    refine take_ (i := 3) (N := some 30) (v := ?_) (a' := ?_) #[true, true, true, true, false, false, false, false, false, false, false, false, false, false, false, false, false] rfl rfl (by kernel_rfl) (fun _ _ _ h => h) (Or.inl ⟨by rfl, ?_⟩) hHeld ?_ ?_
    rotate_left
    · rintro w' ⟨s0, s1⟩
      go_simp
      with_reducible rfl
    rotate_left
    · simp only [Act.put, List.setIfInBounds_toArray, List.set_cons_zero, List.set_cons_succ, i64_w, i32_w]
      rfl
    refine pure_ (i := 4) (N := some 31) (v := ?_) (a' := ?_) #[true, true, true, true, true, false, false, false, false, false, false, false, false, false, false, false, false] rfl rfl (by kernel_rfl) (fun _ _ _ h => h) (Or.inl ⟨by rfl, ?_⟩) ?_ ?_
    rotate_left
    · intro w'
      go_simp
      with_reducible rfl
    rotate_left
    · simp only [Act.put, List.setIfInBounds_toArray, List.set_cons_zero, List.set_cons_succ, i64_w, i32_w]
      rfl
    refine take_ (i := 6) (N := some 33) (v := .agg #[.string s, .bool gone]) (a' := ?_) #[true, true, true, true, true, false, true, false, false, false, false, false, false, false, false, false, false] rfl rfl (by kernel_rfl) (fun _ _ _ h => h) (yieldsIf_load_mid (by rfl) 38 (.tmp 5) rfl g5 0 rfl [.string s, .bool gone] _ (fun w' h => rangeAt_of_blk h.2) Try.underlying38 rfl (by kernel_rfl)) hHeld ?_ ?_
    rotate_left
    · simp only [Act.put, List.setIfInBounds_toArray, List.set_cons_zero, List.set_cons_succ, i64_w, i32_w]
      rfl
    refine pure_ (i := 9) (N := some 36) (v := ?_) (a' := ?_) #[true, true, true, true, true, false, true, false, false, true, false, false, false, false, false, false, false] rfl rfl (by kernel_rfl) (fun _ _ _ h => h) (Or.inl ⟨by rfl, ?_⟩) ?_ ?_
    rotate_left
    · intro w'
      go_simp
      with_reducible rfl
    rotate_left
    · simp only [Act.put, List.setIfInBounds_toArray, List.set_cons_zero, List.set_cons_succ, i64_w, i32_w]
      rfl
    refine take_ (i := 10) (N := some 37) (v := .string s) (a' := ?_) #[true, true, true, true, true, false, true, false, false, true, true, false, false, false, false, false, false] rfl rfl (by kernel_rfl) (fun _ _ _ h => h) (Or.inl ⟨by rfl, ?_⟩) hHeld ?_ ?_
    · rintro w' ⟨s0, s1⟩
      have s2 := blk_cell s1 0
      go_simp
    rotate_left
    · simp only [Act.put, List.setIfInBounds_toArray, List.set_cons_zero, List.set_cons_succ, i64_w, i32_w]
      rfl
    refine one_ (i := 5) (N := some 32) #[true, true, true, true, true, true, true, false, false, true, true, false, false, false, false, false, false] rfl rfl (by kernel_rfl) (by decide) (fun K hK => ?_)
    refine goes_ Try.func28 (by kernel_rfl) rfl #[.string k] (by rfl) rfl rfl (by simp only [List.map_toArray, List.map_cons, List.map_nil]; rfl) ?_
    refine (WText_calls k _ (by omega)).mono ?_
    rintro e w3 ⟨rfl, hb3⟩
    refine ⟨_, rfl, ?_⟩
    have HB3 := Lib.hid hb3
    clear hb3
    refine hK.out _ _ (⟨pw_cell_below HB3.out hHeld.1, blk_below hHeld.2 HB3.out⟩) (fun hHeld => ?_)
    clear hK K
    refine norm_ (a' := ?_) ?_ ?_
    rotate_left
    · show Act.put _ (some 32) _ = _
      simp only [Act.put, List.setIfInBounds_toArray, List.set_cons_zero, List.set_cons_succ, i64_w, i32_w]
      rfl
    refine one_ (i := 7) (N := some 34) #[true, true, true, true, true, true, true, true, false, true, true, false, false, false, false, false, false] rfl rfl (by kernel_rfl) (by decide) (fun K hK => ?_)
    refine goes_ Try.func102 (by kernel_rfl) rfl #[.agg #[.string s, .bool gone]] (by rfl) rfl rfl (by simp only [List.map_toArray, List.map_cons, List.map_nil]; rfl) ?_
    refine (flag_calls ⟨k, s, gone⟩ w3).mono ?_
    rintro e w4 ⟨rfl, hb4⟩
    refine ⟨_, rfl, ?_⟩
    have HB4 := Lib.hid hb4
    clear hb4
    refine hK.out _ _ (⟨pw_cell_below HB4.out hHeld.1, blk_below hHeld.2 HB4.out⟩) (fun hHeld => ?_)
    clear hK K
    refine norm_ (a' := ?_) ?_ ?_
    rotate_left
    · show Act.put _ (some 34) _ = _
      simp only [Act.put, List.setIfInBounds_toArray, List.set_cons_zero, List.set_cons_succ, i64_w, i32_w]
      rfl
    refine pure_ (i := 8) (N := some 35) (v := ?_) (a' := ?_) #[true, true, true, true, true, true, true, true, true, true, true, false, false, false, false, false, false] rfl rfl (by kernel_rfl) (fun _ _ _ h => h) (Or.inl ⟨by rfl, ?_⟩) ?_ ?_
    rotate_left
    · intro w'
      go_simp
      with_reducible rfl
    rotate_left
    · simp only [Act.put, List.setIfInBounds_toArray, List.set_cons_zero, List.set_cons_succ, i64_w, i32_w]
      rfl
    refine one_ (i := 11) (N := some 38) #[true, true, true, true, true, true, true, true, true, true, true, true, false, false, false, false, false] rfl rfl (by kernel_rfl) (by decide) (fun K hK => ?_)
    refine goes_ Try.func28 (by kernel_rfl) rfl #[.string s] (by rfl) rfl rfl (by simp only [List.map_toArray, List.map_cons, List.map_nil]; rfl) ?_
    refine (WText_calls s w4 (by omega)).mono ?_
    rintro e w5 ⟨rfl, hb5⟩
    refine ⟨_, rfl, ?_⟩
    have HB5 := Lib.hid hb5
    clear hb5
    refine hK.out _ _ (⟨pw_cell_below HB5.out hHeld.1, blk_below hHeld.2 HB5.out⟩) (fun hHeld => ?_)
    clear hK K
    refine norm_ (a' := ?_) ?_ ?_
    rotate_left
    · show Act.put _ (some 38) _ = _
      simp only [Act.put, List.setIfInBounds_toArray, List.set_cons_zero, List.set_cons_succ, i64_w, i32_w]
      rfl
    refine pure_ (i := 12) (N := some 39) (v := ?_) (a' := ?_) #[true, true, true, true, true, true, true, true, true, true, true, true, true, false, false, false, false] rfl rfl (by kernel_rfl) (fun _ _ _ h => h) (Or.inl ⟨by rfl, ?_⟩) ?_ ?_
    rotate_left
    · intro w'
      go_simp
      with_reducible rfl
    rotate_left
    · simp only [Act.put, List.setIfInBounds_toArray, List.set_cons_zero, List.set_cons_succ, i64_w, i32_w]
      rfl
    refine pure_ (i := 13) (N := some 40) (v := ?_) (a' := ?_) #[true, true, true, true, true, true, true, true, true, true, true, true, true, true, false, false, false] rfl rfl (by kernel_rfl) (fun _ _ _ h => h) (Or.inl ⟨by rfl, ?_⟩) ?_ ?_
    rotate_left
    · intro w'
      go_simp
      with_reducible rfl
    rotate_left
    · simp only [Act.put, List.setIfInBounds_toArray, List.set_cons_zero, List.set_cons_succ, i64_w, i32_w]
      rfl
    refine pure_ (i := 14) (N := some 41) (v := ?_) (a' := ?_) #[true, true, true, true, true, true, true, true, true, true, true, true, true, true, true, false, false] rfl rfl (by kernel_rfl) (fun _ _ _ h => h) (Or.inl ⟨by rfl, ?_⟩) ?_ ?_
    rotate_left
    · intro w'
      go_simp
      with_reducible rfl
    rotate_left
    · simp only [Act.put, List.setIfInBounds_toArray, List.set_cons_zero, List.set_cons_succ, i64_w, i32_w]
      rfl
    refine pure_ (i := 15) (N := some 42) (v := ?_) (a' := ?_) #[true, true, true, true, true, true, true, true, true, true, true, true, true, true, true, true, false] rfl rfl (by kernel_rfl) (fun _ _ _ h => h) (Or.inl ⟨by rfl, ?_⟩) ?_ ?_
    rotate_left
    · intro w'
      go_simp
      with_reducible rfl
    rotate_left
    · simp only [Act.put, List.setIfInBounds_toArray, List.set_cons_zero, List.set_cons_succ, i64_w, i32_w]
      rfl
    refine last_ (i := 16) (N := none) #[true, true, true, true, true, true, true, true, true, true, true, true, true, true, true, true, true] rfl rfl (by kernel_rfl) (by decide) (fun K hK => ?_)
    have hbA : Below w2.heap.size w2 w5 := (below_drew1 (Below.refl _ _)).trans ((HB3.out.trans (HB4.out.mono HB3.out.size)).trans (HB5.out.mono (by have := HB3.out.size; have := HB4.out.size; omega)))
    have hm5 := HM2.out.below hbA
    have HM5 := Lib.hid hm5
    have HBA := Lib.hid hbA
    have hc5 := hm5.get.2.1
    have hf5 := hm5.get.2.2.2.2 3
    clear hbA hm5
    refine skip_ (w1 := w5.setCell ⟨g, 3, none⟩ (.string (m2.load ++ (encB k.size ++ k ++ flagB gone ++ (encB s.size ++ s))))) (by rfl) rfl (by go_simp) ?_
    clear hc5 hf5
    refine hK.out _ _ ?_
    clear hK K
    refine done_ (by kernel_rfl) ?_
    clear hHeld
    go_wp2_with fail
    go_end0
    have hm9 : Mk (w5.setCell ⟨g, 3, none⟩ (.string (m2.load ++ (encB k.size ++ k ++ flagB gone ++ (encB s.size ++ s))))) g base ok1 b { load := m2.load ++ rowB ⟨k, s, gone⟩, first := m2.first, many := m2.many, out := m2.out, idx := m2.idx } := HM5.out.set (m2.load ++ rowB ⟨k, s, gone⟩) m2.first m2.many 3 _ (fun _ _ _ _ _ => rfl)
    refine ⟨rfl, ?_, ?_⟩
    · have he : addS b m ⟨k, s, gone⟩ = { load := m2.load ++ rowB ⟨k, s, gone⟩, first := m2.first, many := m2.many, out := m2.out, idx := m2.idx } := by rw [HE2.out]; exact HADD.out
      rw [he]
      exact hm9.mono (fun k hk _ => by rw [HOK.out] at hk; exact hk.1) HOG.out
    · exact ((HO2.out.below HBA.out).set (p := ⟨g, 3, none⟩) (.inl (.inl rfl)) _).mono (fun k hk => .inl (hk.imp id (fun h => by rw [HOK.out] at h; exact h.1)))
end Go.Proofs.Ytfemjlhfgmbcmaa
